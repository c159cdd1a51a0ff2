/- Calls, regions in any order, loops: their rules over such values. No condition. -/
import Derived.Test.YtknmgdnhongcnaaGreatDoorEngA
import Derived.Still
import Derived.Scope
set_option linter.all false
set_option linter.unnecessarySimpa false
namespace Go.Am
set_option linter.unusedVariables false
def St.put(σ:St)(dst:Option Tmp)(r:AV):St:=match dst with
 |some d=>⟨b0 σ.aC d r,σ.objs⟩
 |none=>σ
def stepA(T:bW)(G:cV)(σ:St)(o:Oper):Option St:=
 match pureOp T (evA G σ.aC) o.op with
 |some r=>some (σ.put o.dst r)
 |none=>match memOp T (evA G σ.aC) σ.objs o.op with
  |some r=>some (σ.put o.dst r)
  |none=>match fN T (evA G σ.aC) σ.objs (o.dst.getD 9999) o.op with
   |some (r,b5)=>some (St.put ⟨σ.aC,updO σ.objs b5⟩ o.dst r)
   |none=>none
structure qj(m:Mem)(fr:eF)(w:World):Prop where
 mem:∀b o,m b=some o→w.heap[b]?=some o
 frame:O3 fr w
 apart:∀b,m b≠none→fr b=none
theorem Den.ok{m:Mem}{fr:eF}{ρ:cP}{σ:St}{a:Act}{w:World}(h:Den m fr ρ σ a w):qj m fr w:=⟨h.mem,h.frame,h.apart⟩
def uR(m:Mem)(aF:List D)(vs:List Value):Prop:=vs.length=aF.length∧∀(i:Nat) (d:D) (v:Value),aF[i]?=some d→vs[i]?=some v→cU m d v
def uS(P:Program)(f:FuncId):Prop:=∃fn,P.funcs[f]?=some fn∧(fn.name== "runtime.NumGoroutine")=false∧fn.body.isNone=false
structure dz(P:Program)(G:cV)(f:FuncId)(aF:List D)(dQ:D→Prop):Prop where
 fn:uS P f
 run:∀m fr w vs,iL G m→qj m fr w→uR m aF vs→Calls P f vs.toArray w fun e w'=>∃v cd r,e= .returned v∧dQ r∧m.le cd∧qj cd fr w'∧cU cd r v
theorem dz.mono{P:Program}{G:cV}{f:FuncId}{aF:List D}{dQ PV:D→Prop}(h:dz P G f aF dQ)(av:∀r,dQ r→PV r):dz P G f aF PV:=
 ⟨h.fn,fun m fr w vs cA cY cv=>(h.run m fr w vs cA cY cv).mono fun e w' ⟨v,cd,r,ad,ae,ay⟩=>⟨v,cd,r,ad,av r ae,ay⟩⟩
def oR:List D→List D→Prop
 |[],[]=>True
 |x::xs,y::cR=>x.le y∧oR xs cR
 |_,_=>False
theorem oR.refl:∀l:List D,oR l l
 |[]=>trivial
 |x::l=>⟨x.le_refl,oR.refl l⟩
theorem oR.ok{m:Mem}:∀{xs cR:List D} {vs:List Value},oR xs cR→uR m xs vs→uR m cR vs
 |[],[],vs,_,h=>h
 |x::xs,y::cR,[],_,h=>by have:=h.1;simp at this
 |x::xs,y::cR,v::vs,aq,h=>by
  have ih:=oR.ok (m:=m) (vs:=vs) aq.2 ⟨by simpa using h.1,fun i d u ax hu=>h.2 (i+1) d u (by simpa using ax) (by simpa using hu)⟩
  refine ⟨by simpa using ih.1,?_⟩
  intro i d u ax hu
  cases i with
  |zero=>simp at ax hu;subst ax;subst hu;exact aq.1 m v (h.2 0 x v rfl rfl)
  |succ i=>exact ih.2 i d u (by simpa using ax) (by simpa using hu)
 |[],y::cR,vs,h,_=>h.elim
 |x::xs,[],vs,h,_=>h.elim
def D.flat:D→Bool
 | .val _=>true
 | .agg cs=>cs.all fun c=>match c with
  | .val _=>true
  |_=>false
 | .aO cs=>cs.all fun c=>match c with
  | .val _=>true
  | .agg cs=>cs.all fun c=>match c with
   | .val _=>true
   |_=>false
  |_=>false
 |_=>false
theorem ZX{m cd:Mem}{c:D}{v:Value}(h:(match c with| .val _=>true|_=>false)=true)(ax:cU m c v):cU cd c v:=by
 cases c<;>first|(cases ax;exact .val _)|cases h
theorem flat_agg{m cd:Mem}{cs:List D}{v:Value}(h:(cs.all fun c=>match c with| .val _=>true|_=>false)=true)(ax:cU m (.agg cs) v):cU cd (.agg cs) v:=by
 cases ax with
 |agg _ vs aq bu=>exact .agg _ _ aq fun i c u aj hu=>ZX (List.all_eq_true.1 h c (List.mem_of_getElem? aj)) (bu i c u aj hu)
theorem D.ZY{m cd:Mem}{x:D}{v:Value}(h:x.flat=true)(ax:cU m x v):cU cd x v:=by
 cases x with
 |val=>cases ax;exact .val _
 |agg cs=>exact flat_agg h ax
 |aO cs=>
  cases ax with
  |aO _ vs aq bu=>
   refine .aO _ _ aq fun i c u aj hu=>?_
   have ad:=List.all_eq_true.1 h c (List.mem_of_getElem? aj)
   have ae:=bu i c u aj hu
   cases c with
   |val=>cases ae;exact .val _
   |agg cs=>exact flat_agg ad ae
   |aO=>cases ad
   |aD=>cases ad
   |di=>cases ad
   |mp=>cases ad
   |ref=>cases ad
   |fn=>cases ad
 |aD=>cases h
 |di=>cases h
 |mp=>cases h
 |ref=>cases h
 |fn=>cases h
def toDa(objs:b8):AV→Option D
 | .d x=>some x
 | .row key=>match objs key with
  |some (.row k es)=>some (.aD k es)
  |_=>none
 | .sub key k i len=>match objs key with
  |some (.row bg es)=>if k=bg∧i+len≤es.length then some (.aD k ((es.drop i).take len)) else none
  |_=>none
 | .map key=>match objs key with
  |some (.map es)=>some (.mp es)
  |_=>none
 |_=>none
def allSome{α:Type}:List (Option α)→Option (List α)
 |[]=>some []
 |some x::r=>match allSome r with
  |some l=>some (x::l)
  |none=>none
 |none::_=>none
theorem oS{α:Type}:∀{l:List (Option α)} {r:List α},allSome l=some r→r.length=l.length∧∀(i:Nat) (x:α),r[i]?=some x→l[i]?=some (some x)
 |[],r,h=>by simp [allSome] at h;subst h;simp
 |none::l,r,h=>by simp [allSome] at h
 |some x::l,r,h=>by
  simp only [allSome] at h
  split at h
  case h_2=>cases h
  rename_i oO dV
  cases h
  have ih:=oS dV
  refine ⟨by simp [ih.1],?_⟩
  intro i y aN
  cases i with
  |zero=>simpa using aN
  |succ i=>exact ih.2 i y (by simpa using aN)
def toD0(objs:b8):AV→Option D
 | .ptr key off=>match objs key with
  |some (.box cells)=>match allSome (cells.map (toDa objs)) with
   |some cs=>some (.ref cs off)
   |none=>none
  |_=>none
 | .dP cs off=>some (.ref cs off)
 |x=>toDa objs x
def toD1(objs:b8):AV→Option D
 | .agg cs=>match allSome (cs.map (toD0 objs)) with
  |some aF=>some (.agg aF)
  |none=>none
 | .fn f first cap=>match allSome (first.map (toD0 objs)),allSome (cap.map (toD0 objs)) with
  |some as,some iq=>some (.fn f as iq)
  |_,_=>none
 |x=>toD0 objs x
def toD(objs:b8):AV→Option D
 | .aO cs=>match allSome (cs.map (toD1 objs)) with
  |some aF=>some (.aO aF)
  |none=>none
 |x=>toD1 objs x
noncomputable def Den.all(m:Mem)(ρ:cP)(objs:b8)(w:World):Mem:=fun b=>
 match m b with
 |some o=>some o
 |none=>open Classical in if∃k o,objs k=some o∧o.owns=true∧blockOf (ρ k)=some b then w.heap[b]? else none
section
variable{P:Program}{T:bW}{G:cV}{m:Mem}{fr:eF}{ρ:cP}{σ:St}{a:Act}{w:World}
theorem Den.x6(m:Mem)(ρ:cP)(objs:b8)(w:World):m.le (Den.all m ρ objs w):=by
 intro b o h;simp [Den.all,h]
theorem Den.Fp(h:Den m fr ρ σ a w){k:Key}{o:cq}{b:Nat}(ai:σ.objs k=some o)(aG:o.owns=true)(ak:blockOf (ρ k)=some b):Den.all m ρ σ.objs w b=w.heap[b]?:=by
 have:=(h.own k o b ai aG ak).1
 simp only [Den.all,this]
 rw [if_pos ⟨k,o,ai,aG,ak⟩]
theorem Den.ZZ(h:Den m fr ρ σ a w):∀b o,Den.all m ρ σ.objs w b=some o→w.heap[b]?=some o:=by
 intro b o ak
 unfold Den.all at ak
 cases hm:m b with
 |some x=>simp only [hm] at ak;cases ak;exact h.mem b _ hm
 |none=>
  simp only [hm] at ak
  split at ak
  ·exact ak
  ·cases ak
theorem Den.PW(h:Den m fr ρ σ a w):qj (Den.all m ρ σ.objs w) fr w:=by
 refine ⟨h.ZZ,h.frame,?_⟩
 intro b ak
 unfold Den.all at ak
 cases hm:m b with
 |some x=>exact h.apart b (by rw [hm];simp)
 |none=>
  simp only [hm] at ak
  split at ak
  ·rename_i aj
   obtain ⟨k,o,ad,ae,ay⟩:=aj
   exact (h.own k o b ad ae ay).2
  ·exact absurd rfl ak
theorem PX(h:Den m fr ρ σ a w){x:AV}{v:Value}{d:D}(ag:bI m ρ σ.used x v)(ax:toDa σ.objs x=some d):cU (Den.all m ρ σ.objs w) d v:=by
 have hle:=Den.x6 m ρ σ.objs w
 have row:∀key k es v,σ.objs key=some (.row k es)→v=ρ key→cU (Den.all m ρ σ.objs w) (.aD k es) v:=by
  rintro key k es v ai rfl
  rcases h.objs _ _ ai with⟨aS,rfl⟩|⟨b,o,cap,vs,dD,aS,aV,bz,cB,dx,e3⟩
  ·rw [aS];exact .lg _ _ _
  ·have ak:=h.Fp ai rfl (by rw [aS];rfl)
   obtain ⟨f1,f2⟩:=Pt (m:=m) dx e3
   rw [aS]
   refine .aD k es b o cap vs dD (0,0) (by rw [ak];exact aV) dx bz (fun i j=>(vs[o+i*k+j]?).getD undef) ?_ ?_
   ·intro i e j c af aH
    obtain ⟨x,a0,a9⟩:=e3 i e j c af aH
    rw [a0];rfl
   ·intro i e j c af aH
    obtain ⟨x,a0,a9⟩:=e3 i e j c af aH
    simp only [a0,Option.getD_some]
    exact a9.mono hle
 unfold toDa at ax
 split at ax
 ·cases ax
  exact ag.mD.mono hle
 ·rename_i key
  split at ax
  case h_2=>cases ax
  rename_i k es ai
  cases ax
  cases ag
  exact row key k es _ ai rfl
 ·rename_i key k i len
  split at ax
  case h_2=>cases ax
  rename_i bg es ai
  split at ax
  case isFalse=>cases ax
  rename_i aj
  obtain ⟨rfl,Jz⟩:=aj
  cases ax
  cases ag with
  |jE _ _ _ hu av=>rw [List.take_zero];exact .lg _ _ _
  |sub _ _ _ _ b o L cap hX hu av uG aB=>
  have hlen:((es.drop i).take len).length=len:=by simp;omega
  rcases Nat.eq_zero_or_pos len with ar|h7
  ·subst ar;rw [List.take_zero];exact .lg _ _ _
  ·have nh:=row key k es _ ai rfl
   rw [av] at nh
   cases nh with
   |lg=>simp at Jz;omega
   |aD _ _ _ _ _ vs dD dH hm c6 aj xs ad ae=>
    have:=cU.aD (m:=Den.all m ρ σ.objs w) k ((es.drop i).take len) b (o+i*k) (cap-i) vs dD dH hm (fun e he=>c6 e (List.mem_of_mem_drop (List.mem_of_mem_take he))) (by omega) (fun p j=>xs (i+p) j)
     (fun p el j c ey aj=>by
      rw [List.getElem?_take] at ey
      split at ey
      case isFalse=>cases ey
      rw [List.getElem?_drop] at ey
      have:=ad (i+p) el j c ey aj
      rw [←this]
      congr 1
      rw [Nat.add_mul];omega)
     (fun p el j c ey aj=>by
      rw [List.getElem?_take] at ey
      split at ey
      case isFalse=>cases ey
      rw [List.getElem?_drop] at ey
      exact ae (i+p) el j c ey aj)
    rw [hlen] at this
    rw [aB.1 (by omega)]
    exact this
 ·rename_i key
  split at ax
  case h_2=>cases ax
  rename_i es ai
  cases ax
  cases ag
  obtain ⟨r,cT,clock,aS,aV,bz,cB,dx⟩:=h.objs _ _ ai
  have ak:=h.Fp ai rfl (by rw [aS];rfl)
  rw [aS]
  exact .mp es r cT clock (by rw [ak];exact aV) bz cB (fun i e x he ag=>(dx i e x he ag).mono hle)
 ·cases ax
theorem Fq(h:Den m fr ρ σ a w){x:AV}{v:Value}{d:D}(ag:bI m ρ σ.used x v)(ax:toD0 σ.objs x=some d):cU (Den.all m ρ σ.objs w) d v:=by
 have hle:=Den.x6 m ρ σ.objs w
 unfold toD0 at ax
 split at ax
 ·rename_i key off
  split at ax
  case h_2=>cases ax
  rename_i cells ai
  split at ax
  case h_2=>cases ax
  rename_i cs gJ
  cases ax
  obtain ⟨b,vs,dD,aS,aV,bz,cB⟩:=h.objs _ _ ai
  have ak:=h.Fp ai rfl (by rw [aS];rfl)
  obtain ⟨lp,kN⟩:=oS gJ
  cases ag with|ptr _ _ b' hu av=>
  rw [aS] at av
  cases av
  have key:∀(j:Nat) (c:D),cs[j]?=some c→∃u,vs[j]?=some u∧cU (Den.all m ρ σ.objs w) c u:=by
   intro j c aj
   have ad:=kN j c aj
   simp only [List.getElem?_map,Option.map_eq_some_iff] at ad
   obtain ⟨y,aN,ng⟩:=ad
   have aH:j<vs.size:=by rw [bz];exact (List.getElem?_eq_some_iff.1 aN).1
   exact ⟨_,Array.getElem?_eq_getElem aH,PX h (cB j y _ aN (Array.getElem?_eq_getElem aH)) ng⟩
  have:=cU.ref (m:=Den.all m ρ σ.objs w) cs off b 0 vs dD (0,0) (by rw [ak];exact aV) (fun j=>(vs[j]?).getD undef)
   (fun j c aj=>by obtain ⟨u,ad,_⟩:=key j c aj;simp [ad]) (fun j c aj=>by obtain ⟨u,ad,ae⟩:=key j c aj;simp [ad];exact ae)
  simpa using this
 ·cases ax
  cases ag with|dP _ _ b o vs T dH hm xs ad ae=>exact .ref _ _ b o vs T dH (hle _ _ hm) xs ad (fun j c aj=>(ae j c aj).mono hle)
 ·exact PX h ag ax
theorem PY(h:Den m fr ρ σ a w){x:AV}{v:Value}{d:D}(ag:bI m ρ σ.used x v)(ax:toD1 σ.objs x=some d):cU (Den.all m ρ σ.objs w) d v:=by
 unfold toD1 at ax
 split at ax
 ·rename_i cs
  split at ax
  case h_2=>cases ax
  rename_i aF ef
  cases ax
  obtain ⟨lp,kN⟩:=oS ef
  cases ag with|agg _ vs aq bu=>
  refine .agg _ _ (by rw [aq,lp];simp) ?_
  intro i c u aj hu
  have ad:=kN i c aj
  simp only [List.getElem?_map,Option.map_eq_some_iff] at ad
  obtain ⟨y,aN,ng⟩:=ad
  exact Fq h (bu i y u aN hu) ng
 ·rename_i f first cap
  split at ax
  case h_2=>cases ax
  rename_i as iq has AL
  cases ax
  obtain ⟨lp,kN⟩:=oS has
  obtain ⟨cg,dK⟩:=oS AL
  cases ag with|fn _ _ _ vs ws aq dV bu uT=>
  refine .fn _ _ _ vs ws (by rw [aq,lp];simp) (by rw [dV,cg];simp) ?_ ?_
  ·intro i c u aj hu
   have ad:=kN i c aj
   simp only [List.getElem?_map,Option.map_eq_some_iff] at ad
   obtain ⟨y,aN,ng⟩:=ad
   exact Fq h (bu i y u aN hu) ng
  ·intro i c u aj hu
   have ad:=dK i c aj
   simp only [List.getElem?_map,Option.map_eq_some_iff] at ad
   obtain ⟨y,aN,ng⟩:=ad
   exact Fq h (uT i y u aN hu) ng
 ·exact Fq h ag ax
theorem PZ(h:Den m fr ρ σ a w){x:AV}{v:Value}{d:D}(ag:bI m ρ σ.used x v)(ax:toD σ.objs x=some d):cU (Den.all m ρ σ.objs w) d v:=by
 unfold toD at ax
 split at ax
 ·rename_i cs
  split at ax
  case h_2=>cases ax
  rename_i aF ef
  cases ax
  obtain ⟨lp,kN⟩:=oS ef
  cases ag with|aO _ vs aq bu=>
  refine .aO _ _ (by rw [aq,lp];simp) ?_
  intro i c u aj hu
  have ad:=kN i c aj
  simp only [List.getElem?_map,Option.map_eq_some_iff] at ad
  obtain ⟨y,aN,ng⟩:=ad
  exact PY h (bu i y u aN hu) ng
 ·exact PY h ag ax
theorem Z0(h:Den m fr ρ σ a w){xs:List AV}{vs:List Value}{aF:List D}(aq:vs.length=xs.length)(ag:∀(i:Nat) (x:AV) (v:Value),xs[i]?=some x→vs[i]?=some v→bI m ρ σ.used x v)(ax:allSome (xs.map (toD σ.objs))=some aF):
  uR (Den.all m ρ σ.objs w) aF vs:=by
 obtain ⟨lp,kN⟩:=oS ax
 refine ⟨by rw [aq,lp];simp,?_⟩
 intro i d v ad ae
 have ay:=kN i d ad
 simp only [List.getElem?_map,Option.map_eq_some_iff] at ay
 obtain ⟨y,aN,ng⟩:=ay
 exact PZ h (ag i y v aN ae) ng
theorem Den.Z1(h:Den m fr ρ σ a w){w':World}{cd:Mem}(hle:(Den.all m ρ σ.objs w).le cd)(cY:qj cd fr w'):Den m fr ρ σ a w':=by
 refine ⟨fun b o ak=>cY.mem b o (hle b o (Den.x6 m ρ σ.objs w b o ak)),cY.frame,h.apart,h.one,h.aC,?_,h.own,h.sep⟩
 intro k o ai
 refine (h.objs k o ai).mono (Mem.le_refl m) (fun _ hu=>⟨hu,rfl⟩) (fun b aG ak=>?_)
 have ad:=h.Fp ai aG ak
 have ae:b<w.heap.size:=(h.objs k o ai).ru aG ak
 have ay:=Array.getElem?_eq_getElem ae
 rw [ay] at ad⊢
 exact cY.mem b _ (hle b _ ad)
noncomputable def Den.hold(fr:eF)(ρ:cP)(objs:b8)(w:World):eF:=⟨Den.all fr.at_ ρ objs w,fr.os,fr.out,fr.low⟩
theorem Den.P0(h:Den m fr ρ σ a w){k:Key}{o:cq}{b:Nat}(ai:σ.objs k=some o)(aG:o.owns=true)(ak:blockOf (ρ k)=some b):Den.hold fr ρ σ.objs w b=w.heap[b]?:=by
 have:=(h.own k o b ai aG ak).2
 simp only [Den.hold,Den.all,this]
 rw [if_pos ⟨k,o,ai,aG,ak⟩]
theorem Den.P1(h:Den m fr ρ σ a w):qj m (Den.hold fr ρ σ.objs w) w:=by
 refine ⟨h.mem,⟨?_,⟨h.frame.quiet.os,h.frame.quiet.out,h.frame.quiet.low,h.frame.quiet.p9⟩⟩,?_⟩
 ·intro b o ak
  unfold Den.hold Den.all at ak
  cases hm:fr b with
  |some x=>simp only [hm] at ak;cases ak;exact h.frame.nY b _ hm
  |none=>
   simp only [hm] at ak
   split at ak
   ·exact ak
   ·cases ak
 ·intro b ak
  show Den.all fr.at_ ρ σ.objs w b=none
  unfold Den.all
  rw [h.apart b ak]
  simp only
  rw [if_neg]
  rintro ⟨k,o,ad,ae,ay⟩
  exact ak (h.own k o b ad ae ay).1
theorem Den.kept(h:Den m fr ρ σ a w){w':World}{cd:Mem}(hle:m.le cd)(cY:qj cd (Den.hold fr ρ σ.objs w) w'):Den cd fr ρ σ a w':=by
 have n6:∀b o,fr b=some o→Den.hold fr ρ σ.objs w b=some o:=Den.x6 fr.at_ ρ σ.objs w
 have jd:∀k o b,σ.objs k=some o→o.owns=true→blockOf (ρ k)=some b→cd b=none:=by
  intro k o b ai aG ak
  cases hm:cd b with
  |none=>rfl
  |some x=>
   have ad:=cY.apart b (by rw [hm];simp)
   rw [h.P0 ai aG ak,Array.getElem?_eq_getElem ((h.objs k o ai).ru aG ak)] at ad
   cases ad
 refine ⟨cY.mem,⟨fun b o ak=>cY.frame.nY b o (n6 b o ak),⟨cY.frame.quiet.os,cY.frame.quiet.out,cY.frame.quiet.low,cY.frame.quiet.p9⟩⟩,?_,h.one,fun t=>(h.aC t).mono hle (fun _ hu=>⟨hu,rfl⟩),?_,fun k o b ad ae ay=>⟨jd k o b ad ae ay,(h.own k o b ad ae ay).2⟩,h.sep⟩
 ·intro b ak
  have:=cY.apart b ak
  cases a6:fr b with
  |none=>rfl
  |some x=>rw [n6 b x a6] at this;cases this
 ·intro k o ai
  refine (h.objs k o ai).mono hle (fun _ hu=>⟨hu,rfl⟩) (fun b aG ak=>?_)
  have ad:=h.P0 ai aG ak
  have ay:=Array.getElem?_eq_getElem ((h.objs k o ai).ru aG ak)
  rw [ay] at ad⊢
  exact cY.frame.nY b _ ad
end
end Go.Am
namespace Go.Am
set_option linter.unusedVariables false
def dS(o:Option cq):Prop:=(∃cs,o=some (.box cs))∨∃k es,o=some (.row k es)
theorem rA{cs:List AV}:dS (some (.box cs)):= .inl ⟨_,rfl⟩
theorem rB{k:Nat}{es:List (List D)}:dS (some (.row k es)):= .inr ⟨_,_,rfl⟩
theorem rC:¬dS none:=by rintro (⟨_,h⟩|⟨_,_,h⟩)<;>cases h
theorem AM:¬dS (some .dead):=by rintro (⟨_,h⟩|⟨_,_,h⟩)<;>cases h
theorem x7{es:List (Value×D)}:¬dS (some (.map es)):=by rintro (⟨_,h⟩|⟨_,_,h⟩)<;>cases h
theorem x8{o:Option cq}(h:dS o):∃x,o=some x:=by rcases h with⟨_,h⟩|⟨_,_,h⟩<;>exact ⟨_,h⟩
def jG(σ:St)(ρ:cP)(aP:St)(cr:cP):Prop:=∀k,10000≤k→dS (σ.objs k)→dS (aP.objs k)∧cr k=ρ k
theorem jG.refl(σ:St)(ρ:cP):jG σ ρ σ ρ:=fun _ _ h=>⟨h,rfl⟩
theorem jG.trans{fh eY P2:St}{lq jH P3:cP}(h:jG fh lq eY jH)(bm:jG eY jH P2 P3):jG fh lq P2 P3:=
 fun k ai ak=>let⟨a,b⟩:=h k ai ak;let⟨c,d⟩:=bm k ai a;⟨c,d.trans b⟩
@[simp] theorem St.sW (σ:St) (dst:Option Tmp) (r:AV):(σ.put dst r).objs=σ.objs:=by cases dst<;>rfl
def hE(N:Nat)(m:Mem)(fr:eF)(ρ:cP)(σ:St)(K:St→Prop)(cu:Act)(w':World):Prop:=
 ∃aP cd cr,K aP∧m.le cd∧Den cd fr cr aP cu w'∧N≤cu.tmps.size∧cu.defers=[]∧jG σ ρ aP cr
theorem Den.put{m:Mem}{fr:eF}{ρ:cP}{σ:St}{a:Act}{w:World}(h:Den m fr ρ σ a w){dst:Option Tmp}{r:AV}{v:Value}(av:bI m ρ σ.used r v)(ax:∀d,dst=some d→d<a.tmps.size):
  Den m fr ρ (σ.put dst r) (a.put dst v) w:=by
 cases dst with
 |none=>exact h
 |some d=>
  refine ⟨h.mem,h.frame,h.apart,h.one,?_,h.objs,h.own,h.sep⟩
  intro t
  have bJ:=ax d rfl
  by_cases aE:t=d
  ·subst aE
   simp only [St.put,dZ,Act.put]
   have:(a.tmps.setIfInBounds t v).getD t undef=v:=by simp [Array.getD,bJ]
   rw [this];exact av
  ·simp only [St.put,ct _ _ aE,Act.put]
   have:(a.tmps.setIfInBounds d v).getD t undef=a.tmps.getD t undef:=by
    rw [Array.getD_eq_getD_getElem?,Array.getD_eq_getD_getElem?,Array.getElem?_setIfInBounds,if_neg (Ne.symm aE)]
   rw [this];exact h.aC t
theorem JV{objs:b8}{k:Key}{o:cq}(h:dS (objs k)→dS (some o)):∀j,dS (objs j)→dS (b0 objs k (some o) j):=by
 intro j aH
 by_cases fg:j=k
 ·subst fg;rw [dZ];exact h aH
 ·rw [ct _ _ fg];exact aH
theorem Z2{T:bW}{ev:Operand→AV}{objs:b8}{d:Key}{o:Op}{r:AV}{b5:List (Key×cq)}(h:effOp0 T ev objs d o=some (r,b5)):∀j,10000≤j→dS (objs j)→dS (updO objs b5 j):=by
 have new:∀{o:cq},objs d=none→∀j,10000≤j→dS (objs j)→dS (updO objs [(d,o)] j):=by
  intro o ax j _
  exact JV (fun h=>by rw [ax] at h;exact absurd h rC) j
 have same:∀{k:Key} {de o:cq},objs k=some de→(dS (some de)→dS (some o))→∀j,10000≤j→dS (objs j)→dS (updO objs [(k,o)] j):=by
  intro k de o ai ca j _
  exact JV (fun h=>by rw [ai] at h;exact ca h) j
 cases o<;>simp only [effOp0,reduceCtorEq] at h
 case alloc=>split at h<;>cases h;exact new (by assumption)
 case box=>split at h<;>cases h;exact new (by assumption)
 case buildSlice=>
  split at h
  case h_2=>cases h
  split at h
  case h_2=>cases h
  split at h
  case h_2=>cases h
  split at h<;>cases h
  exact new (by assumption)
 case makeSlice=>
  split at h
  case h_2=>cases h
  split at h
  case h_2=>cases h
  split at h
  case h_2=>cases h
  split at h<;>cases h
  exact new (by assumption)
 case makeMap=>split at h<;>cases h;exact new (by assumption)
 case store=>
  split at h
  case h_2=>cases h
  split at h
  case isFalse=>cases h
  split at h
  ·split at h
   case h_2=>cases h
   split at h<;>cases h
   exact fun j _=>JV (fun _=>rA) j
  ·split at h
   case h_2=>cases h
   split at h
   case isFalse=>cases h
   split at h<;>cases h
   exact same (by assumption) (fun _=>rB)
  ·cases h
 case mapUpdate=>
  split at h
  case h_2=>cases h
  split at h
  case h_2=>cases h
  split at h
  case isFalse=>cases h
  split at h
  case h_2=>cases h
  split at h
  case h_2=>cases h
  split at h<;>cases h
  exact same (by assumption) (fun h=>absurd h x7)
 case insert=>
  split at h
  case h_2=>cases h
  split at h
  case h_2=>cases h
  split at h
  case isFalse=>cases h
  split at h
  case h_2=>cases h
  split at h
  case h_2=>cases h
  split at h<;>cases h
  exact same (by assumption) (fun h=>absurd h x7)
 case call=>
  split at h
  ·split at h
   case h_2=>cases h
   split at h
   case h_2=>cases h
   split at h
   case h_2=>cases h
   split at h
   case h_2=>cases h
   split at h
   case isFalse=>cases h
   split at h
   ·split at h<;>cases h
    exact new (by assumption)
   ·split at h
    case h_2=>cases h
    split at h<;>cases h
    rename_i ax _ _ _ _ _ _ _ _ _ _ _ _ ai _ _
    rename_i Ft
    intro j cK aH
    have Z3:j≠d:=by rintro rfl;simp_all [rC]
    simp only [updO]
    rw [ct _ _ Z3,ct _ _ (by rintro rfl;exact absurd Ft.2.2.2 (Nat.not_lt.2 cK))]
    exact aH
   ·cases h
  ·split at h
   case h_2=>cases h
   split at h
   case h_2=>cases h
   split at h
   case h_2=>cases h
   split at h
   case h_2=>cases h
   split at h
   case isFalse=>cases h
   split at h
   ·split at h
    case h_2=>cases h
    split at h<;>cases h
    exact same (by assumption) (fun _=>rB)
   ·split at h
    case h_2=>cases h
    split at h<;>cases h
    exact same (by assumption) (fun _=>rB)
   ·cases h
  ·cases h
theorem P4{T:bW}{ev:Operand→AV}{objs:b8}{d:Key}{o:Op}{k:Key}{off:Nat}{b5:List (Key×cq)}(h:effOp0 T ev objs d o=some (.ptr k off,b5)):objs d=none:=by
 cases o<;>simp only [effOp0,reduceCtorEq] at h
 case alloc=>split at h<;>cases h;assumption
 case box=>split at h<;>cases h;assumption
 all_goals (repeat' split at h)<;>cases h
theorem P5{T:bW}{ev:Operand→AV}{objs:b8}{d:Key}{o:Op}{b5:List (Key×cq)}(h:effOp0 T ev objs d o=some (.row d,b5)):objs d=none:=by
 cases o<;>simp only [effOp0,reduceCtorEq] at h
 all_goals (repeat' split at h)<;>cases h<;>assumption
theorem Z4{T:bW}{ev:Operand→AV}{objs:b8}{d:Key}{o:Op}{r:AV}{b5:List (Key×cq)}(h:fN T ev objs d o=some (r,b5)):∀j,10000≤j→dS (objs j)→dS (updO objs b5 j):=by
 obtain ⟨⟨g8,qi⟩,ar,ak⟩:=sV h
 have ad:=Z2 ar
 intro j cK aH
 have aI:∀{o:cq},objs d=none→j≠d:=by rintro o ax rfl;rw [ax] at aH;exact rC aH
 rcases uQ (T.born d) d g8 qi with e|⟨n,es,rfl,rfl,e⟩|⟨n2,n,es,rfl,rfl,e⟩|⟨off,cs,aF,rfl,rfl,ef,e⟩
 ·rw [ak] at e;cases e;exact ad j cK aH
 ·rw [ak] at e;cases e
  have ax:=aI (o:= .dead) (P5 ar)
  have:=ad j cK aH
  simp only [updO,ct _ _ ax] at this⊢
  exact this
 ·rw [ak] at e;cases e
  have ax:=aI (o:= .dead) (P5 ar)
  have:=ad j cK aH
  simp only [updO,ct _ _ ax] at this⊢
  exact this
 ·rw [ak] at e;cases e
  have ax:=aI (o:= .dead) (P4 ar)
  simp only [updO,ct _ _ ax];exact aH
section
variable{P:Program}{T:bW}{G:cV}{m:Mem}{fr:eF}{ρ:cP}{σ:St}{a:Act}{w:World}{N:Nat}
theorem Z5(a4:dk P T)(cA:iL G m)(h:Den m fr ρ σ a w)(bV:N≤a.tmps.size)(gf:a.defers=[]){o:Oper}(fG:∀d,o.dst=some d→d<N){aP:St}(az:stepA T G σ o=some aP){K:St→Prop}(gg:K aP){Q:Exit→Act→World→Prop}:
  o.wp P a w (hE N m fr ρ σ K) Q:=by
 have cW:=As (a:=a) cA h.aC
 have hF:∀d,o.dst=some d→d<a.tmps.size:=fun d ax=>Nat.lt_of_lt_of_le (fG d ax) bV
 have qk:∀v,N≤(a.put o.dst v).tmps.size:=by intro v;cases o.dst<;>simpa [Act.put] using bV
 have kp:∀v,(a.put o.dst v).defers=[]:=by intro v;cases o.dst<;>exact gf
 unfold Oper.wp
 unfold stepA at az
 split at az
 ·rename_i r av
  cases az
  obtain ⟨v,ad,ae⟩:=Zh (P:=P) (w:=w) (o:=o) a4 h.one cW av
  rw [ad]
  exact ⟨_,m,ρ,gg,Mem.le_refl m,h.put ae hF,qk v,kp v,fun k ai ak=>⟨by simpa using ak,rfl⟩⟩
 ·split at az
  ·rename_i r av
   cases az
   obtain ⟨v,ad,ae⟩:=Zo (P:=P) (w:=w) (o:=o) a4 h.mem h.objs cW av
   rw [ad]
   exact ⟨_,m,ρ,gg,Mem.le_refl m,h.put ae hF,qk v,kp v,fun k ai ak=>⟨by simpa using ak,rfl⟩⟩
  ·split at az
   case h_2=>cases az
   rename_i r b5 av
   cases az
   obtain ⟨nx,v,w',cd,cr,ad,ae,hm,ay,aZ,bG⟩:=ZW (P:=P) (o:=o) a4 h cW av
   rw [ad]
   have fin:hE N m fr ρ σ K (a.put o.dst v) w':=
    ⟨_,cd,cr,gg,hm,ay.put aZ hF,qk v,kp v,fun k ai ak=>⟨by rw [St.sW];exact Z4 av k ai ak,by obtain ⟨c,aj⟩:=x8 ak;exact (bG k ⟨_,aj⟩).2⟩⟩
   rcases ae with rfl|⟨rfl,rfl⟩
   ·exact fin
   ·exact fin
def calleeA:AV→Option (FuncId×List AV×List AV)
 | .d (.val (.func (.func f) first cap))=>if first.size=0∧cap.size=0 then some (f,[],[]) else none
 | .fn (.func f) first cap=>some (f,first,cap)
 | .d (.fn (.func f) first cap)=>some (f,first.map .d,cap.map .d)
 |_=>none
def x9:AV→Bool
 | .d _=>true
 | .dP _ _=>true
 |_=>false
def isDA:AV→Bool
 | .agg cs=>cs.all x9
 | .fn _ as iq=>as.all x9&&iq.all x9
 |x=>x9 x
theorem JW{m:Mem}{ρ:cP}{U:Key→Prop}{objs:b8}{x:AV}{d:D}{v:Value}(h:x9 x=true)(ax:toD0 objs x=some d)(aM:bI m ρ U x v):cU m d v:=by
 cases x<;>first|cases h|skip
 ·simp only [toD0,toDa] at ax;cases ax;exact aM.mD
 ·simp only [toD0] at ax;cases ax
  cases aM with|dP _ _ b o vs T dH hm xs ad ae=>exact .ref _ _ b o vs T dH hm xs ad ae
theorem JX{m:Mem}{ρ:cP}{U:Key→Prop}{objs:b8}{cs:List AV}{aF:List D}{vs:Array Value}(h:cs.all x9=true)(ax:allSome (cs.map (toD0 objs))=some aF)(aq:vs.size=cs.length)
  (aM:∀(i:Nat) (c:AV) (v:Value),cs[i]?=some c→vs[i]?=some v→bI m ρ U c v):vs.size=aF.length∧∀(i:Nat) (c:D) (v:Value),aF[i]?=some c→vs[i]?=some v→cU m c v:=by
 obtain ⟨ad,ae⟩:=oS ax
 refine ⟨by rw [ad,aq];simp,fun i c v aj af=>?_⟩
 have ay:=ae i c aj
 simp only [List.getElem?_map,Option.map_eq_some_iff] at ay
 obtain ⟨y,aN,sX⟩:=ay
 exact JW (List.all_eq_true.1 h y (List.mem_of_getElem? aN)) sX (aM i y v aN af)
theorem JY{m:Mem}{ρ:cP}{U:Key→Prop}{objs:b8}{x:AV}{d:D}{v:Value}(h:isDA x=true)(ax:toD objs x=some d)(aM:bI m ρ U x v):cU m d v:=by
 cases x
 case agg cs=>
  simp only [toD,toD1] at ax
  split at ax
  case h_2=>cases ax
  rename_i aF ef
  cases ax
  cases aM with|agg _ vs aq bu=>
  obtain ⟨a0,a9⟩:=JX h ef aq bu
  exact .agg _ _ a0 a9
 case fn f as iq=>
  simp only [isDA,Bool.and_eq_true] at h
  simp only [toD,toD1] at ax
  split at ax
  case h_2=>cases ax
  rename_i aF ya ef Z6
  cases ax
  cases aM with|fn _ _ _ vs ws aq dV bu uT=>
  obtain ⟨a0,a9⟩:=JX h.1 ef aq bu
  obtain ⟨bH,ei⟩:=JX h.2 Z6 dV uT
  exact .fn _ _ _ _ _ a0 bH a9 ei
 case d y=>exact JW (x:= .d y) rfl (by simpa [toD,toD1] using ax) aM
 case dP cs off=>exact JW (x:= .dP cs off) rfl (by simpa [toD,toD1] using ax) aM
 all_goals cases h
def P6(P:Program)(G:cV)(σ:St)(dst:Option Tmp)(f:FuncId)(rD:List AV)(K:St→Prop):Prop:=
 ∃lr aF dQ,allSome (rD.map (toD σ.objs))=some lr∧oR lr aF∧dz P G f aF dQ∧(∃g8,dQ=(·=g8))∧((∀r,dQ r→r.flat=true)∨rD.all isDA=true)∧∀r,dQ r→K (σ.put dst (.d r))
def vCall(P:Program)(G:cV)(o:Oper)(σ:St)(K:St→Prop):Prop:=
 match o.op with
 | .call ⟨.value x,args,_⟩=>match calleeA (evA G σ.aC x) with
  |some (f,pre,post)=>P6 P G σ o.dst f (pre++args.toList.map (evA G σ.aC)++post) K
  |none=>False
 |_=>False
def vDo(P:Program)(T:bW)(G:cV)(o:Oper)(K:St→Prop)(σ:St):Prop:=
 match stepA T G σ o with
 |some aP=>K aP
 |none=>vCall P G o σ K
def vOp(P:Program)(T:bW)(G:cV)(all:Array Oper)(o:Oper)(K:St→Prop)(σ:St):Prop:=
 match o.guard with
 |none=>vDo P T G o K σ
 |some (j,want)=>match(all[j]?).bind (·.dst) with
  |some d=>match σ.aC d with
   | .d (.val (.bool b))=>if b=want then vDo P T G o K σ else K (σ.put o.dst (.d (.val (.tuple #[]))))
   | .d (.val (.tuple _))=>K (σ.put o.dst (.d (.val (.tuple #[]))))
   |_=>False
  |none=>False
def vOps(P:Program)(T:bW)(G:cV)(all:Array Oper):List Oper→(St→Prop)→St→Prop
 |[],K,σ=>K σ
 |o::r,K,σ=>vOp P T G all o (vOps P T G all r K) σ
theorem P7{va:Operand→Value}{x:Operand}{args:Array Operand}{df:Array TypeId}{ty:TypeId}{f:FuncId}{first cap:Array Value}(ag:va x= .func (.func f) first cap)(a6:uS P f):
  (do let d←resolve va {callee:= .value x,args:=args,argTypes:=df} ty;invoke d.target d.args:Sem Next).run P w= .ok (.enter f (first++args.map va++cap)) w:=by
 obtain ⟨fn,ad,ae,ay⟩:=a6
 simp only [Sem.run_bind,resolve,ag,Deferred.ofValue,Sem.run_pure,Result.andThen_ok,invoke,callFunc,program,Sem.run,ad,ae,ay,Bool.false_eq_true,if_false]
theorem Z7(cA:iL G m)(h:Den m fr ρ σ a w)(bV:N≤a.tmps.size)(gf:a.defers=[]){o:Oper}(fG:∀d,o.dst=some d→d<N){K:St→Prop}(aj:vCall P G o σ K){Q:Exit→Act→World→Prop}:
  o.wp P a w (hE N m fr ρ σ K) Q:=by
 have cW:=As (a:=a) cA h.aC
 have hF:∀d,o.dst=some d→d<a.tmps.size:=fun d ax=>Nat.lt_of_lt_of_le (fG d ax) bV
 have qk:∀v,N≤(a.put o.dst v).tmps.size:=by intro v;cases o.dst<;>simpa [Act.put] using bV
 have kp:∀v,(a.put o.dst v).defers=[]:=by intro v;cases o.dst<;>exact gf
 unfold vCall at aj
 split at aj
 case h_2=>cases aj
 rename_i x args df dj
 split at aj
 case h_2=>cases aj
 rename_i f pre post fO
 obtain ⟨lr,aF,dQ,ad,ae,ay,aZ,bG,ch⟩:=aj
 have ag:=cW x
 have JZ:∃first cap,a.eval x= .func (.func f) first cap∧first.size=pre.length∧cap.size=post.length∧
   (∀(i:Nat) (c:AV) (v:Value),pre[i]?=some c→first[i]?=some v→bI m ρ σ.used c v)∧(∀(i:Nat) (c:AV) (v:Value),post[i]?=some c→cap[i]?=some v→bI m ρ σ.used c v):=by
  unfold calleeA at fO
  split at fO
  ·rename_i iO first cap he
   split at fO
   case isFalse=>cases fO
   rename_i ar
   cases fO
   rw [he] at ag
   exact ⟨first,cap,ag.gA,by simpa using ar.1,by simpa using ar.2,by intro i c v aj;simp at aj,by intro i c v aj;simp at aj⟩
  ·rename_i iO first cap he
   cases fO
   rw [he] at ag
   generalize a.eval x=u at ag
   cases ag with|fn _ _ _ vs ws aq dV g oT=>exact ⟨vs,ws,rfl,aq,dV,g,oT⟩
  ·rename_i iO first cap he
   cases fO
   rw [he] at ag
   have ag:=ag.mD
   generalize a.eval x=u at ag
   cases ag with|fn _ _ _ vs ws aq dV g oT=>
   refine ⟨vs,ws,rfl,by simpa using aq,by simpa using dV,?_,?_⟩
   ·intro i c v aj aM
    simp only [List.getElem?_map,Option.map_eq_some_iff] at aj
    obtain ⟨y,aN,rfl⟩:=aj
    exact .d _ _ (g i y v aN aM)
   ·intro i c v aj aM
    simp only [List.getElem?_map,Option.map_eq_some_iff] at aj
    obtain ⟨y,aN,rfl⟩:=aj
    exact .d _ _ (oT i y v aN aM)
  ·cases fO
 obtain ⟨first,cap,sO,lQ,nd,a0,a9⟩:=JZ
 have ft:∀(i:Nat) (c:AV) (v:Value),(pre++args.toList.map (evA G σ.aC)++post)[i]?=some c→(first++args.map a.eval++cap).toList[i]?=some v→bI m ρ σ.used c v:=by
  intro i c v aj aM
  simp only [Array.toList_append,Array.toList_map] at aM
  have aS:first.toList.length=pre.length:=by simpa using lQ
  by_cases ad:i<pre.length
  ·rw [List.append_assoc,List.getElem?_append_left ad] at aj
   rw [List.append_assoc,List.getElem?_append_left (by omega)] at aM
   exact a0 i c v aj (by simpa using aM)
  ·by_cases ae:i<pre.length+args.size
   ·rw [List.getElem?_append_left (by simp;omega),List.getElem?_append_right (by omega)] at aj
    rw [List.getElem?_append_left (by simp;omega),List.getElem?_append_right (by omega),aS] at aM
    simp only [List.getElem?_map,Option.map_eq_some_iff] at aj aM
    obtain ⟨p,aY,rfl⟩:=aj
    obtain ⟨q,bL,rfl⟩:=aM
    rw [aY] at bL;cases bL
    exact cW _
   ·rw [List.getElem?_append_right (by simp;omega)] at aj
    rw [List.getElem?_append_right (by simp;omega)] at aM
    refine a9 _ c v aj ?_
    rw [←aM]
    simp only [List.length_append,List.length_map,Array.length_toList,lQ]
    simp
 have hlen:(first++args.map a.eval++cap).toList.length=(pre++args.toList.map (evA G σ.aC)++post).length:=by simp [lQ,nd]
 have J0:(execOp a.eval o).run P w= .ok (.enter f (first++args.map a.eval++cap)) w:=by
  unfold execOp
  rw [dj]
  exact P7 sO ay.fn
 unfold Oper.wp
 rw [J0]
 rcases bG with bG|bG
 ·
  have cv:=oR.ok ae (Z0 h hlen ft ad)
  have ql:=ay.run _ fr w _ (cA.mono (Den.x6 m ρ σ.objs w)) h.PW cv
  simp only [Array.toArray_toList] at ql
  refine ql.mono fun e w' he=>?_
  obtain ⟨v,cd,r,rfl,br,bo,bT,dd⟩:=he
  have bO:=h.Z1 bo bT
  exact ⟨_,m,ρ,ch r br,Mem.le_refl m,bO.put (.d _ _ (D.ZY (bG r br) dd)) hF,qk v,kp v,fun k ai ak=>⟨by simpa using ak,rfl⟩⟩
 ·have J1:uR m lr (first++args.map a.eval++cap).toList:=by
   obtain ⟨a0,a9⟩:=oS ad
   refine ⟨by rw [hlen,a0];simp,?_⟩
   intro i d v ax aM
   have bH:=a9 i d ax
   rw [List.getElem?_map,Option.map_eq_some_iff] at bH
   obtain ⟨y,aN,rE⟩:=bH
   exact JY (List.all_eq_true.1 bG y (List.mem_of_getElem? aN)) rE (ft i y v aN aM)
  have ql:=ay.run m _ w _ cA h.P1 (oR.ok ae J1)
  simp only [Array.toArray_toList] at ql
  refine ql.mono fun e w' he=>?_
  obtain ⟨v,cd,r,rfl,br,bo,bT,dd⟩:=he
  have bO:=h.kept bo bT
  exact ⟨_,cd,ρ,ch r br,bo,bO.put (.d _ _ dd) hF,qk v,kp v,fun k ai ak=>⟨by simpa using ak,rfl⟩⟩
theorem J2(a4:dk P T)(cA:iL G m)(h:Den m fr ρ σ a w)(bV:N≤a.tmps.size)(gf:a.defers=[]){o:Oper}(fG:∀d,o.dst=some d→d<N){K:St→Prop}(aj:vDo P T G o K σ){Q:Exit→Act→World→Prop}:
  o.wp P a w (hE N m fr ρ σ K) Q:=by
 unfold vDo at aj
 split at aj
 ·exact Z5 a4 cA h bV gf fG (by assumption) aj
 ·exact Z7 cA h bV gf fG aj
theorem vOp_ok(a4:dk P T)(cA:iL G m)(h:Den m fr ρ σ a w)(bV:N≤a.tmps.size)(gf:a.defers=[]){all:Array Oper}{i:Nat}{o:Oper}(af:all[i]?=some o)(fG:∀d,o.dst=some d→d<N){K:St→Prop}(aj:vOp P T G all o K σ)
  {Q:Exit→Act→World→Prop}:wpOp P all Q i (hE N m fr ρ σ K) a w:=by
 have hF:∀d,o.dst=some d→d<a.tmps.size:=fun d ax=>Nat.lt_of_lt_of_le (fG d ax) bV
 unfold wpOp
 simp only [af]
 unfold vOp at aj
 split at aj
 ·rename_i bD
  have:Region.wanted o (yielded all a.tmps)=true:=by simp [Region.wanted,bD]
  rw [if_pos this]
  exact .inl (J2 a4 cA h bV gf fG aj)
 ·rename_i j want bD
  split at aj
  case h_2=>cases aj
  rename_i d ax
  have kq:∀v,a.tmps.getD d undef=v→yielded all a.tmps j=(match v with| .bool b=>some b|_=>none):=by
   intro v aM
   unfold yielded
   rw [ax]
   simp only [Option.bind_some]
   rw [Array.getD_eq_getD_getElem?] at aM
   cases bJ:a.tmps[d]? with
   |none=>
    rw [bJ] at aM
    simp only [Option.getD_none] at aM
    subst aM
    rfl
   |some u=>
    rw [bJ] at aM
    simp only [Option.getD_some] at aM
    subst aM
    cases u<;>rfl
  have skip:Region.wanted o (yielded all a.tmps)=false→K (σ.put o.dst (.d (.val (.tuple #[]))))→hE N m fr ρ σ K (a.put o.dst undef) w:=fun _ ai=>
   ⟨_,m,ρ,ai,Mem.le_refl m,h.put (.d _ _ (.val _)) hF,by cases o.dst<;>simpa [Act.put] using bV,by cases o.dst<;>exact gf,fun k ai ak=>⟨by simpa using ak,rfl⟩⟩
  split at aj
  ·rename_i b az
   have aM:=h.aC d
   rw [az] at aM
   have aN:=kq _ aM.gA
   simp only at aN
   have hw:Region.wanted o (yielded all a.tmps)=(b==want):=by
    simp only [Region.wanted,bD,aN]
    cases b<;>cases want<;>rfl
   by_cases ak:b=want
   ·rw [if_pos ak] at aj
    rw [hw,if_pos (by simpa using ak)]
    exact .inl (J2 a4 cA h bV gf fG aj)
   ·rw [if_neg ak] at aj
    have a6:Region.wanted o (yielded all a.tmps)=false:=by rw [hw];simpa using ak
    rw [if_neg (by rw [a6];simp)]
    exact skip a6 aj
  ·rename_i vs az
   have aM:=h.aC d
   rw [az] at aM
   have aN:=kq _ aM.gA
   simp only at aN
   have a6:Region.wanted o (yielded all a.tmps)=false:=by
    simp only [Region.wanted,bD,aN];rfl
   rw [if_neg (by rw [a6];simp)]
   exact skip a6 aj
  ·cases aj
theorem wpOp_mono{ops:Array Oper}{Q:Exit→Act→World→Prop}{i:Nat}{K K':Act→World→Prop}(ai:∀a w,K a w→K' a w){a:Act}{w:World}(h:wpOp P ops Q i K a w):wpOp P ops Q i K' a w:=by
 unfold wpOp at*
 split
 ·rename_i e;simp only [e] at h;exact ai _ _ h
 ·rename_i o e
  simp only [e] at h
  split
  ·rename_i hw
   rw [if_pos hw] at h
   rcases h with h|h
   ·refine .inl ?_
    unfold Oper.wp at*
    generalize (execOp a.eval o).run P w=r at*
    cases r with
    |ok n w'=>
     cases n<;>simp only [Oper.upon] at h⊢<;>first|exact ai _ _ h|exact h|skip
     ·refine h.mono fun e jf he=>?_
      cases e with
      |returned v=>exact ai _ _ he
      |panicked c=>exact he
      |outgrown=>exact he
     ·exact h.mono fun v jf he=>ai _ _ he
    |halt x w'=>cases x<;>exact h
   ·exact .inr h
  ·rename_i hw
   rw [if_neg hw] at h
   exact ai _ _ h
end
end Go.Am
namespace Go.Am
set_option linter.unusedVariables false
theorem Fu{ev hG:Operand→AV}{l:List Operand}(h:∀x∈l,ev x=hG x):l.map ev=l.map hG:=List.map_congr_left h
theorem P8{ev hG:Operand→AV}{h8:Array (Nat×Operand)}(h:∀x∈(h8.toList.map (·.2)),ev x=hG x):(h8.toList.map fun p=>(p.1,ev p.2))=h8.toList.map fun p=>(p.1,hG p.2):=
 List.map_congr_left fun p aY=>by rw [h p.2 (List.mem_map.2 ⟨p,aY,rfl⟩)]
theorem Z8{T:bW}{ev hG:Operand→AV}{op:Op}(h:∀x∈op.operands.toList,ev x=hG x):pureOp T ev op=pureOp T hG op:=by
 cases op<;>simp only [pureOp]
 case move x=>rw [h x (by simp [Op.operands])]
 case assign x=>rw [h x (by simp [Op.operands])]
 case pick c a b=>rw [h c (by simp [Op.operands]),h a (by simp [Op.operands]),h b (by simp [Op.operands])]
 case binOp op t x y uC=>rw [h x (by simp [Op.operands]),h y (by simp [Op.operands])]
 case unOp op t x=>rw [h x (by simp [Op.operands])]
 case convert s t x=>rw [h x (by simp [Op.operands])]
 case fieldAddr s x f=>rw [h x (by simp [Op.operands])]
 case field s x f=>rw [h x (by simp [Op.operands])]
 case extract x i=>rw [h x (by simp [Op.operands])]
 case build t parts=>rw [P8 (by simpa [Op.operands] using h)]
 case index t x i=>rw [h x (by simp [Op.operands]),h i (by simp [Op.operands])]
 case makeFunc f first cap=>
  rw [Fu (l:=first.toList) (fun x ag=>h x (by simp [Op.operands] at ag⊢;exact .inl ag)),Fu (l:=cap.toList) (fun x ag=>h x (by simp [Op.operands] at ag⊢;exact .inr ag))]
 case makeInterface t x=>rw [h x (by simp [Op.operands])]
 case nilCheck x=>rw [h x (by simp [Op.operands])]
 case slice t x lo af eX=>
  cases eX with
  |some _=>rfl
  |none=>
   simp only [pureOp]
   have aS:lo.map ev=lo.map hG:=by cases lo with|none=>rfl|some l=>simp only [Option.map_some];rw [h l (by simp [Op.operands])]
   have aV:af.map ev=af.map hG:=by cases af with|none=>rfl|some l=>simp only [Option.map_some];rw [h l (by simp [Op.operands])]
   rw [h x (by simp [Op.operands]),aS,aV]
 case call c=>
  obtain ⟨callee,args,df⟩:=c
  simp only
  have e:args.toList.map ev=args.toList.map hG:=Fu fun x ag=>h x (by simp [Op.operands,Call.operands] at ag⊢;exact .inr ag)
  rw [e]
theorem Z9{T:bW}{ev hG:Operand→AV}{objs:b8}{op:Op}(h:∀x∈op.operands.toList,ev x=hG x):memOp T ev objs op=memOp T hG objs op:=by
 cases op<;>simp only [memOp]
 case load t a=>rw [h a (by simp [Op.operands])]
 case indexAddr t x en=>rw [h x (by simp [Op.operands]),h en (by simp [Op.operands])]
 case slice t x lo af eX=>
  cases eX with
  |some _=>rfl
  |none=>
   simp only [memOp]
   have aS:lo.map ev=lo.map hG:=by cases lo with|none=>rfl|some l=>simp only [Option.map_some];rw [h l (by simp [Op.operands])]
   have aV:af.map ev=af.map hG:=by cases af with|none=>rfl|some l=>simp only [Option.map_some];rw [h l (by simp [Op.operands])]
   rw [h x (by simp [Op.operands]),aS,aV]
 case call c=>
  obtain ⟨callee,args,df⟩:=c
  simp only
  split
  ·split
   ·rename_i t x mE jW
    have aB:args= #[x]:=by apply Array.ext';simpa using jW
    have e:ev x=hG x:=h x (by simp [Op.operands,Call.operands,aB])
    rw [e]
   ·rfl
  ·rfl
 case lookup t x k ok=>rw [h x (by simp [Op.operands]),h k (by simp [Op.operands])]
 case binOp op t x y uC=>rw [h x (by simp [Op.operands]),h y (by simp [Op.operands])]
theorem aaa{T:bW}{ev hG:Operand→AV}{objs:b8}{d:Key}{op:Op}(h:∀x∈op.operands.toList,ev x=hG x):effOp0 T ev objs d op=effOp0 T hG objs d op:=by
 cases op<;>simp only [effOp0]
 case box t x=>rw [h x (by simp [Op.operands])]
 case buildSlice t n parts=>rw [P8 (by simpa [Op.operands] using h)]
 case makeSlice t l c=>rw [h l (by simp [Op.operands]),h c (by simp [Op.operands])]
 case store t a x=>rw [h a (by simp [Op.operands]),h x (by simp [Op.operands])]
 case mapUpdate t m k x=>rw [h m (by simp [Op.operands]),h k (by simp [Op.operands]),h x (by simp [Op.operands])]
 case insert t m k x=>rw [h m (by simp [Op.operands]),h k (by simp [Op.operands]),h x (by simp [Op.operands])]
 case call c=>
  obtain ⟨callee,args,df⟩:=c
  simp only
  split
  ·split
   ·rename_i t t' s x mE jW
    have aB:args= #[s,x]:=by apply Array.ext';simpa using jW
    have aS:ev s=hG s:=h s (by simp [Op.operands,Call.operands,aB])
    have aV:ev x=hG x:=h x (by simp [Op.operands,Call.operands,aB])
    rw [aS,aV]
   ·rfl
  ·split
   ·rename_i t t' s x mE jW
    have aB:args= #[s,x]:=by apply Array.ext';simpa using jW
    have aS:ev s=hG s:=h s (by simp [Op.operands,Call.operands,aB])
    have aV:ev x=hG x:=h x (by simp [Op.operands,Call.operands,aB])
    rw [aS,aV]
   ·rfl
  ·rfl
theorem aab{T:bW}{ev hG:Operand→AV}{objs:b8}{d:Key}{op:Op}(h:∀x∈op.operands.toList,ev x=hG x):fN T ev objs d op=fN T hG objs d op:=by
 unfold fN;rw [aaa h]
def hj:Op→Bool
 | .move _| .assign _| .pick ..| .unOp ..| .convert ..| .fieldAddr ..| .field ..| .extract ..| .build ..| .index ..| .makeFunc ..| .makeInterface ..| .nilCheck _=>true
 |_=>false
def hN:Op→Bool
 | .load ..| .indexAddr ..| .slice ..| .lookup ..| .binOp ..=>true
 | .call ⟨.builtin b,_,_⟩=>match b with
  | .len| .max| .min=>true
  |_=>false
 |_=>false
def gh:Op→Bool
 | .call ⟨.value _,_,_⟩=>true
 |_=>false
def n7:Op→Bool
 | .alloc _| .box ..| .buildSlice ..=>true
 |_=>false
theorem yb{T:bW}{ev:Operand→AV}{objs:b8}{d:Key}{op:Op}(h:hj op=true):memOp T ev objs op=none∧fN T ev objs d op=none:=by
 cases op<;>first|exact ⟨rfl,rfl⟩|cases h
theorem yc{T:bW}{ev:Operand→AV}{objs:b8}{d:Key}{op:Op}(h:hN op=true):fN T ev objs d op=none:=by
 cases op
 case call c=>
  obtain ⟨callee,args,df⟩:=c
  cases callee with
  |value=>cases h
  |invoke=>cases h
  |builtin b=>cases b<;>first|rfl|cases h
 all_goals first|rfl|cases h
theorem J3{T:bW}{ev:Operand→AV}{objs:b8}{d:Key}{op:Op}(h:gh op=true):pureOp T ev op=none∧memOp T ev objs op=none∧fN T ev objs d op=none:=by
 cases op
 case call c=>
  obtain ⟨callee,args,df⟩:=c
  cases callee with
  |value=>exact ⟨rfl,rfl,rfl⟩
  |invoke=>cases h
  |builtin b=>cases h
 all_goals cases h
theorem oU{T:bW}{ev:Operand→AV}{objs:b8}{op:Op}(h:n7 op=true):pureOp T ev op=none∧memOp T ev objs op=none:=by
 cases op<;>first|exact ⟨rfl,rfl⟩|cases h
theorem aac{T:bW}{ev:Operand→AV}{objs objs':b8}{d:Key}{op:Op}(h:n7 op=true)(ar:objs' d=none){r:AV}{b5:List (Key×cq)}(he:effOp0 T ev objs d op=some (r,b5)):
  effOp0 T ev objs' d op=some (r,b5)∧objs d=none∧∃o,b5=[(d,o)]:=by
 cases op
 case alloc t=>
  simp only [effOp0] at he⊢
  split at he
  case h_2=>cases he
  rename_i i aE ax
  cases he
  exact ⟨by simp only [ar,aE],ax,_,rfl⟩
 case box t x=>
  simp only [effOp0] at he⊢
  split at he
  case h_2=>cases he
  rename_i cs aj ax
  cases he
  exact ⟨by simp only [ar,aj],ax,_,rfl⟩
 case buildSlice t n parts=>
  simp only [effOp0] at he⊢
  split at he
  case h_2=>cases he
  rename_i e s b z aE ax
  simp only [ar,aE]
  split at he
  case h_2=>cases he
  rename_i bf h6
  try simp only [h6]
  split at he
  case h_2=>cases he
  rename_i es aY
  try simp only [aY]
  split at he
  case isFalse=>cases he
  rename_i aj
  cases he
  exact ⟨by rw [if_pos aj],ax,_,rfl⟩
 all_goals cases h
theorem yd{T:bW}{ev:Operand→AV}{objs objs':b8}{d:Key}{op:Op}(h:n7 op=true)(ar:objs' d=none){r:AV}{b5:List (Key×cq)}(he:fN T ev objs d op=some (r,b5)):
  fN T ev objs' d op=some (r,b5)∧objs d=none∧∃o,b5=[(d,o)]:=by
 obtain ⟨⟨g8,qi⟩,e8,ak⟩:=sV he
 obtain ⟨a0,a9,o,rfl⟩:=aac (objs':=objs') h ar e8
 refine ⟨by unfold fN;rw [a0];simp [ak],a9,?_⟩
 rcases uQ (T.born d) d g8 [(d,o)] with e|⟨n,es,aS,aV,e⟩|⟨n2,n,es,aS,aV,e⟩|⟨off,cs,aF,aS,aV,ef,e⟩
 ·rw [ak] at e;cases e;exact ⟨o,rfl⟩
 ·rw [ak] at e;cases e;exact ⟨_,rfl⟩
 ·cases aV
 ·rw [ak] at e;cases e;exact ⟨_,rfl⟩
def b8.ext(objs objs':b8):Prop:=∀k o,objs k=some o→objs' k=some o
theorem b8.Fv{objs:b8}{k:Key}(h:objs k=none)(o:cq):objs.ext (b0 objs k (some o)):=by
 intro j x ag
 have:j≠k:=by rintro rfl;rw [h] at ag;cases ag
 rw [ct _ _ this];exact ag
theorem P9{objs objs':b8}(h:objs.ext objs'){x:AV}{n:Nat}(aq:lenA objs x=some n):lenA objs' x=some n:=by
 unfold lenA at*
 split at aq
 ·exact aq
 ·exact aq
 ·split at aq
  ·rename_i ai;rw [h _ _ ai];exact aq
  ·cases aq
 ·exact aq
 ·cases aq
theorem Fw{objs objs':b8}(h:objs.ext objs'){x:AV}{b:Bool}(aq:someS objs x=some b):someS objs' x=some b:=by
 unfold someS at*
 split at aq
 ·exact aq
 ·exact aq
 ·split at aq
  ·rename_i ai;rw [h _ _ ai];exact aq
  ·cases aq
 ·cases aq
theorem Qa{objs objs':b8}(h:objs.ext objs'){x:AV}{d:D}(aq:toDa objs x=some d):toDa objs' x=some d:=by
 unfold toDa at*
 split at aq
 ·exact aq
 ·split at aq
  ·rename_i ai;rw [h _ _ ai];exact aq
  ·cases aq
 ·split at aq
  ·rename_i ai;rw [h _ _ ai];exact aq
  ·cases aq
 ·split at aq
  ·rename_i ai;rw [h _ _ ai];exact aq
  ·cases aq
 ·cases aq
theorem ni{α:Type}{f g:AV→Option α}(h:∀x d,f x=some d→g x=some d):∀(l:List AV) (r:List α),allSome (l.map f)=some r→allSome (l.map g)=some r
 |[],r,av=>av
 |x::l,r,av=>by
  simp only [List.map_cons] at av⊢
  cases ag:f x with
  |none=>simp [ag,allSome] at av
  |some d=>
   rw [ag] at av
   simp only [allSome] at av
   split at av
   case h_2=>cases av
   rename_i oO dV
   rw [h x d ag]
   simp only [allSome,ni h l oO dV]
   exact av
theorem Fx{objs objs':b8}(h:objs.ext objs'){x:AV}{d:D}(aq:toD0 objs x=some d):toD0 objs' x=some d:=by
 unfold toD0 at*
 split at aq
 ·split at aq
  case h_2=>cases aq
  rename_i ai
  simp only [h _ _ ai]
  split at aq
  case h_2=>cases aq
  rename_i cs gJ
  rw [ni (fun x d ag=>Qa h ag) _ _ gJ]
  exact aq
 ·exact aq
 ·exact Qa h aq
theorem Qb{objs objs':b8}(h:objs.ext objs'){x:AV}{d:D}(aq:toD1 objs x=some d):toD1 objs' x=some d:=by
 unfold toD1 at*
 split at aq
 ·split at aq
  case h_2=>cases aq
  rename_i aF ef
  rw [ni (fun x d ag=>Fx h ag) _ _ ef]
  exact aq
 ·split at aq
  case h_2=>cases aq
  rename_i as iq has AL
  rw [ni (fun x d ag=>Fx h ag) _ _ has,ni (fun x d ag=>Fx h ag) _ _ AL]
  exact aq
 ·exact Fx h aq
theorem aad{objs objs':b8}(h:objs.ext objs'){x:AV}{d:D}(aq:toD objs x=some d):toD objs' x=some d:=by
 unfold toD at*
 split at aq
 ·split at aq
  case h_2=>cases aq
  rename_i aF ef
  rw [ni (fun x d ag=>Qb h ag) _ _ ef]
  exact aq
 ·exact Qb h aq
theorem aae{T:bW}{ev:Operand→AV}{objs objs':b8}(h:objs.ext objs'){op:Op}{r:AV}(hm:memOp T ev objs op=some r):memOp T ev objs' op=some r:=by
 cases op<;>simp only [memOp,reduceCtorEq] at hm⊢
 case load t a=>
  split at hm
  case h_2=>cases hm
  split at hm
  ·exact hm
  ·split at hm
   case h_2=>cases hm
   rename_i ai;simp only [h _ _ ai];exact hm
  ·split at hm
   case h_2=>cases hm
   rename_i ai;simp only [h _ _ ai];exact hm
  ·cases hm
 case indexAddr t x en=>
  split at hm
  ·split at hm
   case h_2=>cases hm
   split at hm
   case isFalse=>cases hm
   rename_i ar
   rw [if_pos ar]
   split at hm
   ·exact hm
   ·split at hm
    case h_2=>cases hm
    rename_i ai;simp only [h _ _ ai];exact hm
   ·exact hm
   ·cases hm
  ·exact hm
  ·cases hm
 case slice t x lo af eX=>
  cases eX with
  |some _=>simp [memOp] at hm
  |none=>
   simp only [memOp] at hm⊢
   split at hm
   case h_3=>cases hm
   case h_2=>exact hm
   split at hm
   case h_2=>cases hm
   split at hm
   case h_2=>cases hm
   rename_i n aI
   simp only [P9 h aI]
   split at hm
   case h_2=>cases hm
   split at hm
   case isFalse=>cases hm
   rename_i aj
   rw [if_pos aj]
   split at hm
   ·exact hm
   ·split at hm
    case h_2=>cases hm
    rename_i ai;simp only [h _ _ ai];exact hm
   ·exact hm
   ·cases hm
 case call c=>
  split at hm
  case h_2=>cases hm
  split at hm
  case h_2=>cases hm
  split at hm
  ·exact hm
  ·split at hm
   case h_2=>cases hm
   rename_i n aI
   simp only [P9 h aI];exact hm
  ·exact hm
  ·exact hm
  ·split at hm
   case h_2=>cases hm
   rename_i ai;simp only [h _ _ ai];exact hm
  ·cases hm
 case lookup t x k ok=>
  split at hm
  case h_2=>cases hm
  split at hm
  ·exact hm
  ·exact hm
  ·split at hm
   case h_2=>cases hm
   rename_i ai;simp only [h _ _ ai];exact hm
  ·cases hm
 case binOp op t x y uC=>
  split at hm
  case h_2=>cases hm
  split at hm
  ·split at hm
   ·rename_i aj
    rw [if_pos aj]
    split at hm
    case h_2=>cases hm
    rename_i b ak
    simp only [Fw h ak];exact hm
   ·rename_i aj
    rw [if_neg aj]
    split at hm
    case isFalse=>cases hm
    rename_i oV
    rw [if_pos oV]
    split at hm
    case h_2=>cases hm
    rename_i b ak
    simp only [Fw h ak];exact hm
  ·split at hm
   ·rename_i aj
    rw [if_pos aj]
    split at hm
    case h_2=>cases hm
    rename_i b ak
    simp only [Fw h ak];exact hm
   ·rename_i aj
    rw [if_neg aj]
    split at hm
    case isFalse=>cases hm
    rename_i oV
    rw [if_pos oV]
    split at hm
    case h_2=>cases hm
    rename_i b ak
    simp only [Fw h ak];exact hm
  ·cases hm
end Go.Am
namespace Go.Am
set_option linter.unusedVariables false
theorem Qc:∀(b5:List (Key×cq)) {objs:b8} {k:Key} {o:cq},(∀p∈b5,p.1≠k)→updO (b0 objs k (some o)) b5=b0 (updO objs b5) k (some o)
 |[],objs,k,o,_=>rfl
 |(j,x)::r,objs,k,o,h=>by
  have aH:j≠k:=h (j,x) (by simp)
  simp only [updO]
  have e:b0 (b0 objs k (some o)) j (some x)=b0 (b0 objs j (some x)) k (some o):=by
   funext i
   simp only [b0]
   by_cases ad:i=j
   ·subst ad;simp [aH]
   ·by_cases ae:i=k
    ·subst ae;simp [ad]
    ·simp [ad,ae]
  rw [e]
  exact Qc r (fun p aY=>h p (by simp [aY]))
theorem Fy{objs objs':b8}(h:objs.ext objs'){x:AV}{r:Nat×List (List D)}(aq:elemsOf objs x=some r):elemsOf objs' x=some r:=by
 unfold elemsOf at*
 split at aq
 ·exact aq
 ·exact aq
 ·split at aq
  ·rename_i ai;rw [h _ _ ai];exact aq
  ·cases aq
 ·split at aq
  ·rename_i ai;rw [h _ _ ai];exact aq
  ·cases aq
 ·cases aq
theorem aaf{T:bW}{ev:Operand→AV}{objs objs':b8}(h:objs.ext objs'){d k:Key}(ax:d≠k)(ai:objs k=none)(jX:objs d=none→objs' d=none){op:Op}{r:AV}{b5:List (Key×cq)}
  (he:effOp0 T ev objs d op=some (r,b5)):effOp0 T ev objs' d op=some (r,b5)∧∀p∈b5,p.1≠k:=by
 have one:∀{o:cq},∀p∈[(d,o)],p.1≠k:=by intro o p aY;simp at aY;subst aY;exact ax
 have mG:∀{j:Key} {x o:cq},objs j=some x→∀p∈[(j,o)],p.1≠k:=by
  intro j x o aH p aY
  simp at aY;subst aY
  rintro rfl;rw [ai] at aH;cases aH
 cases op<;>simp only [effOp0,reduceCtorEq] at he
 case alloc t=>
  split at he<;>cases he
  rename_i i aE ar
  exact ⟨by simp only [effOp0,aE,jX ar],one⟩
 case box t x=>
  split at he<;>cases he
  rename_i cs aj ar
  exact ⟨by simp only [effOp0,aj,jX ar],one⟩
 case buildSlice t n parts=>
  split at he
  case h_2=>cases he
  rename_i e s b z aE ar
  split at he
  case h_2=>cases he
  rename_i bf h6
  split at he
  case h_2=>cases he
  rename_i es aY
  split at he
  case isFalse=>cases he
  rename_i aj
  cases he
  exact ⟨by simp only [effOp0,aE,jX ar,h6,aY];rw [if_pos aj],one⟩
 case makeSlice t l c=>
  split at he
  case h_2=>cases he
  rename_i e s b z aE ar
  split at he
  case h_2=>cases he
  rename_i bf h6
  split at he
  case h_2=>cases he
  rename_i Fg ZN Fh ZO ad ae
  split at he
  case isFalse=>cases he
  rename_i aj
  cases he
  exact ⟨by simp only [effOp0,aE,jX ar,h6,ad,ae];rw [if_pos aj],one⟩
 case makeMap t r=>
  split at he<;>cases he
  rename_i ar
  exact ⟨by simp only [effOp0,jX ar],one⟩
 case store t a x=>
  split at he
  case h_2=>cases he
  rename_i i cs aE aj
  split at he
  case isFalse=>cases he
  rename_i aq
  split at he
  ·rename_i j off hD
   split at he
   case h_2=>cases he
   rename_i cells aH
   split at he
   case isFalse=>cases he
   rename_i a6
   cases he
   exact ⟨by simp only [effOp0,aE,aj,hD,h _ _ aH];rw [if_pos aq,if_pos a6],mG aH⟩
  ·rename_i j cw en off hD
   split at he
   case h_2=>cases he
   rename_i bg es aF aH ef
   split at he
   case isFalse=>cases he
   rename_i a6
   split at he
   case h_2=>cases he
   rename_i el ey
   cases he
   exact ⟨by simp only [effOp0,aE,aj,hD,h _ _ aH,ef];rw [if_pos aq,if_pos a6];simp only [ey],mG aH⟩
  ·cases he
 case mapUpdate t m aag x=>
  split at he
  case h_2=>cases he
  rename_i gT hC s b z aE
  split at he
  case h_2=>cases he
  rename_i gI qg
  split at he
  case isFalse=>cases he
  rename_i c6
  split at he
  case h_2=>cases he
  rename_i key dY JS aS aV bz
  split at he
  case h_2=>cases he
  rename_i es aH
  split at he
  case h_2=>cases he
  rename_i l aq
  cases he
  exact ⟨by simp only [effOp0,aE,qg,aS,aV,bz,h _ _ aH,aq];rw [if_pos c6],mG aH⟩
 case insert t m aag x=>
  split at he
  case h_2=>cases he
  rename_i gT hC s b z aE
  split at he
  case h_2=>cases he
  rename_i gI qg
  split at he
  case isFalse=>cases he
  rename_i c6
  split at he
  case h_2=>cases he
  rename_i key dY JS aS aV bz
  split at he
  case h_2=>cases he
  rename_i es aH
  split at he
  case h_2=>cases he
  rename_i l aq
  cases he
  exact ⟨by simp only [effOp0,aE,qg,aS,aV,bz,h _ _ aH,aq];rw [if_pos c6],mG aH⟩
 case call c=>
  obtain ⟨callee,args,df⟩:=c
  simp only at he
  split at he
  ·split at he
   case h_2=>cases he
   rename_i t t' s x mE jW
   split at he
   case h_2=>cases he
   rename_i e s1 fp ll cX s2 g7 oP aE n3 ar
   split at he
   case h_2=>cases he
   rename_i bf h6
   split at he
   case h_2=>cases he
   rename_i cw xs mF
   split at he
   case isFalse=>cases he
   rename_i aj
   split at he
   ·rename_i g6
    split at he
    case isFalse=>cases he
    rename_i ak
    cases he
    exact ⟨by simp only [effOp0,mE,jW,aE,n3,jX ar,h6,Fy h mF,g6];rw [if_pos aj,if_pos ak],one⟩
   ·rename_i key g6
    split at he
    case h_2=>cases he
    rename_i bg es aH
    split at he
    case isFalse=>cases he
    rename_i ak
    cases he
    refine ⟨by simp only [effOp0,mE,jW,aE,n3,jX ar,h6,Fy h mF,g6,h _ _ aH];rw [if_pos aj,if_pos ak],?_⟩
    intro p aY
    simp at aY
    rcases aY with rfl|rfl
    ·rintro rfl;rw [ai] at aH;cases aH
    ·exact ax
   ·cases he
  ·split at he
   case h_2=>cases he
   rename_i t t' s x mE jW
   split at he
   case h_2=>cases he
   rename_i e s1 fp ll aE
   split at he
   case h_2=>cases he
   rename_i bf h6
   split at he
   case h_2=>cases he
   rename_i cw xs mF
   split at he
   case isFalse=>cases he
   rename_i aj
   split at he
   ·rename_i key g6
    split at he
    case h_2=>cases he
    rename_i bg es aH
    split at he
    case isFalse=>cases he
    rename_i ak
    cases he
    exact ⟨by simp only [effOp0,mE,jW,aE,h6,Fy h mF,g6,h _ _ aH];rw [if_pos aj,if_pos ak],mG aH⟩
   ·rename_i key dK i len g6
    split at he
    case h_2=>cases he
    rename_i bg es aH
    split at he
    case isFalse=>cases he
    rename_i ak
    cases he
    exact ⟨by simp only [effOp0,mE,jW,aE,h6,Fy h mF,g6,h _ _ aH];rw [if_pos aj,if_pos ak],mG aH⟩
   ·cases he
  ·cases he
theorem aah{T:bW}{ev:Operand→AV}{objs objs':b8}(h:objs.ext objs'){d k:Key}(ax:d≠k)(ai:objs k=none)(jX:objs d=none→objs' d=none){op:Op}{r:AV}{b5:List (Key×cq)}
  (he:fN T ev objs d op=some (r,b5)):fN T ev objs' d op=some (r,b5)∧∀p∈b5,p.1≠k:=by
 obtain ⟨⟨g8,qi⟩,e8,ak⟩:=sV he
 obtain ⟨a0,a9⟩:=aaf (objs':=objs') h ax ai jX e8
 refine ⟨by unfold fN;rw [a0];simp [ak],fun p aY=>?_⟩
 have ay:=ZU (b:=T.born d) (d:=d) (q:=(g8,qi)) p (by rw [ak];exact aY)
 obtain ⟨mH,aZ,bG⟩:=ay
 rw [←bG];exact a9 mH aZ
def res(T:bW)(G:cV)(σ:St)(o:Oper):Option (AV×List (Key×cq)):=
 match pureOp T (evA G σ.aC) o.op with
 |some r=>some (r,[])
 |none=>match memOp T (evA G σ.aC) σ.objs o.op with
  |some r=>some (r,[])
  |none=>fN T (evA G σ.aC) σ.objs (o.dst.getD 9999) o.op
def St.step(σ:St)(dst:Option Tmp)(r:AV)(b5:List (Key×cq)):St:=St.put ⟨σ.aC,updO σ.objs b5⟩ dst r
theorem sY{T:bW}{G:cV}{σ:St}{o:Oper}:stepA T G σ o=(res T G σ o).map fun p=>σ.step o.dst p.1 p.2:=by
 unfold stepA res St.step
 cases pureOp T (evA G σ.aC) o.op with
 |some r=>rfl
 |none=>
  cases memOp T (evA G σ.aC) σ.objs o.op with
  |some r=>rfl
  |none=>
   cases fN T (evA G σ.aC) σ.objs (o.dst.getD 9999) o.op with
   |none=>rfl
   |some p=>obtain ⟨r,b5⟩:=p;rfl
theorem aai{G:cV}{σ:St}{dst:Option Tmp}{r:AV}{x:Operand}(h:∀d,dst=some d→x≠ .tmp d):evA G (σ.put dst r).aC x=evA G σ.aC x:=by
 cases dst with
 |none=>rfl
 |some d=>
  cases x with
  |tmp t=>
   have:t≠d:=fun e=>h d rfl (by rw [e])
   simp only [evA,St.put,ct _ _ this]
  |_=>rfl
theorem aaj{all:Array Oper}{o:Oper}{d:Tmp}(h:d∉o.looksAt all):∀x∈o.op.operands.toList,x≠ .tmp d:=by
 rintro x ag rfl
 exact h (by unfold Oper.looksAt;exact List.mem_append_left _ (List.mem_filterMap.2 ⟨_,ag,rfl⟩))
theorem aak{all:Array Oper}{o:Oper}{d:Tmp}(h:d∉o.looksAt all){j:Nat}{b:Bool}(bD:o.guard=some (j,b)){e:Tmp}(he:(all[j]?).bind (·.dst)=some e):e≠d:=by
 rintro rfl
 exact h (by unfold Oper.looksAt;exact List.mem_append_right _ (by simp [bD,he]))
theorem put_comm{σ:St}{x y:Option Tmp}{r s:AV}(h:∀d,x=some d→y≠some d):(σ.put x r).put y s=(σ.put y s).put x r:=by
 cases x with
 |none=>rfl
 |some d=>
  cases y with
  |none=>rfl
  |some e=>
   have ca:d≠e:=fun he=>h d rfl (by rw [he])
   simp only [St.put]
   congr 1
   funext t
   simp only [b0]
   by_cases ad:t=d
   ·subst ad;simp [ca]
   ·by_cases ae:t=e
    ·subst ae;simp [ad]
    ·simp [ad,ae]
end Go.Am
namespace Go.Am
set_option linter.unusedVariables false
def pass(x y:Oper):Bool:=
 hj x.op||hj y.op||((hN x.op||gh x.op)&&(hN y.op||gh y.op)&&!(gh x.op&&gh y.op))||
 (n7 y.op&&match y.dst with
  |some d=>decide (d<9999)
  |none=>false)
def wantA(all:Array Oper)(σ:St)(o:Oper):Option Bool:=
 match o.guard with
 |none=>some true
 |some (j,want)=>match(all[j]?).bind (·.dst) with
  |some d=>match σ.aC d with
   | .d (.val (.bool b))=>some (decide (b=want))
   | .d (.val (.tuple _))=>some false
   |_=>none
  |none=>none
section
variable{P:Program}{T:bW}{G:cV}{all:Array Oper}
theorem vOp_eq{o:Oper}{K:St→Prop}{σ:St}:vOp P T G all o K σ=match wantA all σ o with
  |some true=>vDo P T G o K σ
  |some false=>K (σ.put o.dst (.d (.val (.tuple #[]))))
  |none=>False:=by
 unfold vOp wantA
 cases bD:o.guard with
 |none=>rfl
 |some p=>
  obtain ⟨j,want⟩:=p
  simp only
  cases ax:(all[j]?).bind (·.dst) with
  |none=>rfl
  |some d=>
   simp only
   generalize σ.aC d=x
   cases x with
   |d x=>
    cases x with
    |val v=>
     cases v with
     |bool b=>by_cases h:b=want<;>simp [h]
     |_=>rfl
    |_=>rfl
   |_=>rfl
theorem mI{o:Oper}{σ:St}{dst:Option Tmp}{r:AV}(h:∀d,dst=some d→d∉o.looksAt all):wantA all (σ.put dst r) o=wantA all σ o:=by
 unfold wantA
 split
 ·rfl
 ·rename_i j want bD
  split
  ·rename_i e he
   have az:(σ.put dst r).aC e=σ.aC e:=by
    cases dst with
    |none=>rfl
    |some d=>simp only [St.put,ct _ _ (aak (h d rfl) bD he)]
   rw [az]
  ·rfl
theorem Qd{o:Oper}{σ:St}{dst:Option Tmp}{r:AV}(h:∀d,dst=some d→d∉o.looksAt all):∀x∈o.op.operands.toList,evA G (σ.put dst r).aC x=evA G σ.aC x:=
 fun x ag=>aai fun d ax=>aaj (h d ax) x ag
theorem aal{o:Oper}{σ:St}{dst:Option Tmp}{r:AV}(h:∀d,dst=some d→d∉o.looksAt all):res T G (σ.put dst r) o=res T G σ o:=by
 have cW:=Qd (G:=G) (σ:=σ) (r:=r) h
 unfold res
 rw [Z8 cW,Z9 cW,aab cW,St.sW]
theorem aam{σ:St}{Fz J4:Option Tmp}{r s:AV}{b5:List (Key×cq)}(h:∀d,Fz=some d→J4≠some d):(σ.put Fz r).step J4 s b5=(σ.step J4 s b5).put Fz r:=by
 unfold St.step
 rw [←put_comm h]
 cases Fz<;>rfl
theorem aan{o:Oper}{σ:St}{dst:Option Tmp}{r:AV}{K:St→Prop}(h:∀d,dst=some d→d∉o.looksAt all)(ca:∀d,dst=some d→o.dst≠some d):
  vCall P G o (σ.put dst r) K=vCall P G o σ (fun aP=>K (aP.put dst r)):=by
 have cW:=Qd (G:=G) (σ:=σ) (r:=r) h
 unfold vCall
 split
 ·rename_i x args df dj
  have aS:evA G (σ.put dst r).aC x=evA G σ.aC x:=cW x (by rw [dj];simp [Op.operands,Call.operands])
  have aV:args.toList.map (evA G (σ.put dst r).aC)=args.toList.map (evA G σ.aC):=Fu fun y aN=>cW y (by rw [dj];simp [Op.operands,Call.operands];exact .inr (by simpa using aN))
  rw [aS]
  split
  ·rename_i f pre post fO
   unfold P6
   rw [aV,St.sW]
   simp only [put_comm ca]
  ·rfl
 ·rfl
theorem hZ{o:Oper}{σ:St}{dst:Option Tmp}{r:AV}{K:St→Prop}(h:∀d,dst=some d→d∉o.looksAt all)(ca:∀d,dst=some d→o.dst≠some d):
  vDo P T G o K (σ.put dst r)=vDo P T G o (fun aP=>K (aP.put dst r)) σ:=by
 unfold vDo
 rw [sY,sY,aal h]
 cases av:res T G σ o with
 |none=>exact aan h ca
 |some p=>simp only [Option.map_some,aam ca]
theorem aao{ev:Operand→AV}{objs:b8}{d:Key}{op:Op}{p:AV×List (Key×cq)}(h:fN T ev objs d op=some p)(objs':b8):pureOp T ev op=none∧memOp T ev objs' op=none:=by
 obtain ⟨q,ad,_⟩:=sV h
 clear h
 cases op<;>first|exact ⟨rfl,rfl⟩|(simp only [effOp0,reduceCtorEq] at ad;done)|skip
 case call c=>
  obtain ⟨callee,args,df⟩:=c
  cases callee with
  |value=>exact ⟨rfl,rfl⟩
  |invoke=>exact ⟨rfl,rfl⟩
  |builtin b=>cases b<;>first|exact ⟨rfl,rfl⟩|(simp only [effOp0,reduceCtorEq] at ad;done)
theorem aap{ev:Operand→AV}{op:Op}{r:AV}(h:pureOp T ev op=some r):hj op=true∨hN op=true:=by
 cases op
 case call c=>
  obtain ⟨callee,args,df⟩:=c
  cases callee with
  |value=>exact absurd h (by simp [pureOp])
  |invoke=>exact absurd h (by simp [pureOp])
  |builtin b=>cases b<;>first|exact .inr rfl|exact absurd h (by simp [pureOp])
 all_goals first|exact .inl rfl|exact .inr rfl|exact absurd h (by simp [pureOp])
theorem aaq{ev:Operand→AV}{objs:b8}{op:Op}{r:AV}(h:memOp T ev objs op=some r):hj op=true∨hN op=true:=by
 cases op
 case call c=>
  obtain ⟨callee,args,df⟩:=c
  cases callee with
  |value=>exact absurd h (by simp [memOp])
  |invoke=>exact absurd h (by simp [memOp])
  |builtin b=>cases b<;>first|exact .inr rfl|exact absurd h (by simp [memOp])
 all_goals first|exact .inl rfl|exact .inr rfl|exact absurd h (by simp [memOp])
theorem Qe:∀(b5:List (Key×cq)) {objs:b8} {k:Key},updO objs b5 k=none→objs k=none∧∀p∈b5,p.1≠k
 |[],objs,k,h=>⟨h,by simp⟩
 |(j,x)::r,objs,k,h=>by
  obtain ⟨ad,ae⟩:=Qe r h
  have aH:j≠k:=by rintro rfl;rw [dZ] at ad;cases ad
  rw [ct _ _ (Ne.symm aH)] at ad
  exact ⟨ad,by intro p aY;rcases List.mem_cons.1 aY with rfl|aY;exact aH;exact ae p aY⟩
theorem uU{o:Oper}{σ:St}{K:St→Prop}(h:vCall P G o σ K):gh o.op=true:=by
 unfold vCall at h
 split at h
 ·rename_i x args df dj;rw [dj];rfl
 ·cases h
theorem AN{op:Op}(h:gh op=true):hj op=false∧hN op=false∧n7 op=false:=by
 cases op<;>first|cases h|skip
 case call c=>
  obtain ⟨callee,args,df⟩:=c
  cases callee with
  |value=>exact ⟨rfl,rfl,rfl⟩
  |invoke=>cases h
  |builtin b=>cases h
theorem aar{o:Oper}{aC:Nat→AV}{objs objs':b8}(h:objs.ext objs'){r:AV}(av:res T G ⟨aC,objs⟩ o=some (r,[]))(ai:hj o.op=true∨hN o.op=true):res T G ⟨aC,objs'⟩ o=some (r,[]):=by
 unfold res at*
 simp only at*
 split at av
 ·exact av
 ·rename_i aY
  split at av
  ·rename_i asy hm
   simp only [aae h hm]
   exact av
  ·rename_i hm
   rcases ai with ai|ai
   ·rw [(yb (T:=T) (ev:=evA G aC) (objs:=objs) (d:=o.dst.getD 9999) ai).2] at av;cases av
   ·rw [yc ai] at av;cases av
theorem FA{o:Oper}{σ:St}{r:AV}{b5:List (Key×cq)}(av:res T G σ o=some (r,b5))(ai:hj o.op=true∨hN o.op=true):b5=[]:=by
 unfold res at av
 split at av
 ·cases av;rfl
 ·split at av
  ·cases av;rfl
  ·rcases ai with ai|ai
   ·rw [(yb (T:=T) (ev:=evA G σ.aC) (objs:=σ.objs) (d:=o.dst.getD 9999) ai).2] at av;cases av
   ·rw [yc ai] at av;cases av
theorem Qf{o:Oper}{aC:Nat→AV}{objs objs':b8}{p:AV×List (Key×cq)}(av:res T G ⟨aC,objs⟩ o=some p)(ai:hj o.op=true):res T G ⟨aC,objs'⟩ o=some p∧p.2=[]:=by
 unfold res at*
 simp only at*
 split at av
 ·cases av;exact ⟨rfl,rfl⟩
 ·rw [(yb (T:=T) (ev:=evA G aC) (objs:=objs) (d:=o.dst.getD 9999) ai).1,(yb (T:=T) (ev:=evA G aC) (objs:=objs) (d:=o.dst.getD 9999) ai).2] at av
  cases av
theorem rF{o:Oper}{σ:St}(ai:gh o.op=true):res T G σ o=none:=by
 unfold res
 obtain ⟨ad,ae,ay⟩:=J3 (T:=T) (ev:=evA G σ.aC) (objs:=σ.objs) (d:=o.dst.getD 9999) ai
 rw [ad,ae,ay]
theorem kr{o:Oper}{σ:St}{K:St→Prop}{r:AV}{b5:List (Key×cq)}(av:res T G σ o=some (r,b5)):vDo P T G o K σ=K (σ.step o.dst r b5):=by
 unfold vDo;rw [sY,av];rfl
theorem lT{o:Oper}{σ:St}{K:St→Prop}(av:res T G σ o=none):vDo P T G o K σ=vCall P G o σ K:=by
 unfold vDo;rw [sY,av];rfl
theorem AO{o:Oper}{σ:St}{K K':St→Prop}(h:vCall P G o σ K)(ai:∀r,K (σ.put o.dst r)→K' (σ.put o.dst r)):vCall P G o σ K':=by
 unfold vCall at*
 split
 ·rename_i x args df dj
  rw [dj] at h
  simp only at h
  split
  ·rename_i f pre post fO
   simp only [fO] at h
   obtain ⟨lr,aF,dQ,ad,ae,ay,aZ,bG,ch⟩:=h
   exact ⟨lr,aF,dQ,ad,ae,ay,aZ,bG,fun r av=>ai _ (ch r av)⟩
  ·rename_i fO
   simp only [fO] at h
 ·rename_i dj
  split at h
  ·rename_i x args df e;exact absurd e (dj x args df)
  ·exact h
theorem Qg{x y:Oper}{σ:St}{K:St→Prop}(ad:∀d,x.dst=some d→d∉y.looksAt all)(ae:∀d,x.dst=some d→y.dst≠some d)(ay:∀d,y.dst=some d→d∉x.looksAt all)(aY:pass x y=true)
  (h:vDo P T G x (fun fh=>vDo P T G y K fh) σ):vDo P T G y (fun eY=>vDo P T G x K eY) σ:=by
 have fW:∀d,y.dst=some d→x.dst≠some d:=fun d ax ag=>ae d ag ax
 obtain ⟨aC,objs⟩:=σ
 have AP:∀{o:Oper} {r:AV} {u:List (Key×cq)},St.step ⟨aC,objs⟩ o.dst r u=St.put ⟨aC,updO objs u⟩ o.dst r:=rfl
 cases iP:res T G ⟨aC,objs⟩ x with
 |none=>
  rw [lT iP] at h
  have AQ:=uU h
  obtain ⟨lu,sZ,Qh⟩:=AN AQ
  have aN:(hj y.op=true∨hN y.op=true)∨(n7 y.op=true∧∃d,y.dst=some d∧d<9999):=by
   simp only [pass,lu,sZ,AQ,Bool.false_or,Bool.true_and] at aY
   cases mJ:hj y.op with
   |true=>exact .inl (.inl rfl)
   |false=>
    cases cY:hN y.op with
    |true=>exact .inl (.inr rfl)
    |false=>
     simp only [mJ,cY,Bool.false_or] at aY
     cases dG:n7 y.op with
     |false=>simp [dG] at aY
     |true=>
      refine .inr ⟨rfl,?_⟩
      simp only [dG,Bool.true_and] at aY
      cases ax:y.dst with
      |none=>simp [ax] at aY
      |some d=>simp [ax] at aY;exact ⟨d,rfl,aY⟩
  have sX:gh y.op=false:=by
   cases bX:gh y.op with
   |false=>rfl
   |true=>
    obtain ⟨a,b,c⟩:=AN bX
    rcases aN with(e|e)|⟨e,_⟩
    ·rw [a] at e;cases e
    ·rw [b] at e;cases e
    ·rw [c] at e;cases e
  unfold vCall at h
  split at h
  case h_2=>cases h
  rename_i Qi args df dj
  split at h
  case h_2=>cases h
  rename_i f pre post fO
  obtain ⟨lr,aF,dQ,br,bo,bT,⟨g8,rfl⟩,dE,eo⟩:=h
  have ye:vDo P T G y K (St.put ⟨aC,objs⟩ x.dst (.d g8)):=eo g8 rfl
  rw [hZ ad ae] at ye
  cases h9:res T G ⟨aC,objs⟩ y with
  |none=>
   rw [lT h9] at ye
   have:=uU ye
   rw [sX] at this;cases this
  |some p=>
   obtain ⟨n8,oW⟩:=p
   rw [kr h9]
   have nj:b8.ext objs (updO objs oW):=by
    rcases aN with aN|⟨aN,_⟩
    ·rw [FA h9 aN];exact fun _ _ h=>h
    ·have s3:fN T (evA G aC) objs (y.dst.getD 9999) y.op=some (n8,oW):=by
      unfold res at h9
      simp only [(oU (T:=T) (ev:=evA G aC) (objs:=objs) aN).1,(oU (T:=T) (ev:=evA G aC) (objs:=objs) aN).2] at h9
      exact h9
     obtain ⟨bB,aI,o,rfl⟩:=yd (objs':=fun _=>none) aN rfl s3
     exact b8.Fv aI o
   show vDo P T G x K (St.step ⟨aC,objs⟩ y.dst n8 oW)
   rw [AP,hZ ay fW,lT (rF AQ)]
   unfold vCall
   rw [dj]
   simp only [fO]
   refine ⟨lr,aF,_,ni (fun x d ag=>aad nj ag) _ _ br,bo,bT,⟨g8,rfl⟩,dE,fun r av=>?_⟩
   have Qj:vDo P T G y K (St.put ⟨aC,objs⟩ x.dst (.d r)):=eo r av
   rw [hZ ad ae,kr h9,AP,put_comm fW] at Qj
   exact Qj
 |some p=>
  obtain ⟨rx,nk⟩:=p
  rw [kr iP,AP,hZ ad ae] at h
  cases h9:res T G ⟨aC,updO objs nk⟩ y with
  |none=>
   rw [lT h9] at h
   have sX:=uU h
   obtain ⟨lu,sZ,Qh⟩:=AN sX
   have ag:hj x.op=true∨hN x.op=true:=by
    simp only [pass,lu,sZ,Qh,sX,Bool.false_or,Bool.or_false,Bool.false_and,Bool.and_true,Bool.or_true] at aY
    cases mJ:hj x.op with
    |true=>exact .inl rfl
    |false=>
     cases cY:hN x.op with
     |true=>exact .inr rfl
     |false=>cases bX:gh x.op<;>simp [mJ,cY,bX] at aY
   have FB:=FA iP ag
   subst FB
   rw [lT (show res T G ⟨aC,objs⟩ y=none from h9)]
   refine AO h fun r av=>?_
   rw [hZ ay fW,kr iP,AP,put_comm ae]
   exact av
  |some p=>
   obtain ⟨n8,oW⟩:=p
   rw [kr h9] at h
   have s4:St.step ⟨aC,updO objs nk⟩ y.dst n8 oW=St.put ⟨aC,updO (updO objs nk) oW⟩ y.dst n8:=rfl
   rw [s4] at h
   have J5:∀{uV:List (Key×cq)} {FC:AV},res T G ⟨aC,objs⟩ y=some (FC,uV)→(∃AR,res T G ⟨aC,updO objs uV⟩ x=some (rx,AR)∧FC=n8∧updO (updO objs uV) AR=updO (updO objs nk) oW)→
     vDo P T G y (fun eY=>vDo P T G x K eY) ⟨aC,objs⟩:=by
    rintro uV FC aS ⟨AR,aV,rfl,bz⟩
    rw [kr aS]
    show vDo P T G x K (St.step ⟨aC,objs⟩ y.dst FC uV)
    rw [AP,hZ ay fW,kr aV]
    have:St.step ⟨aC,updO objs uV⟩ x.dst rx AR=St.put ⟨aC,updO (updO objs uV) AR⟩ x.dst rx:=rfl
    rw [this,bz,put_comm ae]
    exact h
   by_cases AS:hj x.op=true∨hN x.op=true
   ·have FB:=FA iP AS
    subst FB
    refine J5 h9 ⟨[],?_,rfl,rfl⟩
    by_cases FD:hj y.op=true∨hN y.op=true
    ·rw [FA h9 FD];exact iP
    ·by_cases Qk:hj x.op=true
     ·exact (Qf iP Qk).1
     ·
      have aN:n7 y.op=true:=by
       rw [not_or] at FD
       have ah:hj x.op=false:=by simpa using Qk
       have aT:hj y.op=false:=by simpa using FD.1
       have bR:hN y.op=false:=by simpa using FD.2
       simp only [pass,ah,aT,bR,Bool.false_or] at aY
       cases dG:n7 y.op with
       |true=>rfl
       |false=>
        cases bX:gh y.op with
        |false=>simp [dG,bX] at aY
        |true=>rw [rF bX] at h9;cases h9
      have s3:fN T (evA G aC) objs (y.dst.getD 9999) y.op=some (n8,oW):=by
       have J6:res T G ⟨aC,objs⟩ y=some (n8,oW):=h9
       unfold res at J6
       simp only [(oU (T:=T) (ev:=evA G aC) (objs:=objs) aN).1,(oU (T:=T) (ev:=evA G aC) (objs:=objs) aN).2] at J6
       exact J6
      obtain ⟨bB,aI,o,rfl⟩:=yd (objs':=fun _=>none) aN rfl s3
      exact aar (b8.Fv aI o) iP AS
   ·rw [not_or] at AS
    have ah:hj x.op=false:=by simpa using AS.1
    have aT:hN x.op=false:=by simpa using AS.2
    have FE:gh x.op=false:=by
     cases bX:gh x.op with
     |false=>rfl
     |true=>rw [rF bX] at iP;cases iP
    by_cases Ql:hj y.op=true
    ·obtain ⟨aS,aV⟩:=Qf (objs':=objs) h9 Ql
     simp only at aV
     subst aV
     exact J5 aS ⟨nk,iP,rfl,rfl⟩
    ·have bR:hj y.op=false:=by simpa using Ql
     simp only [pass,ah,aT,bR,FE,Bool.false_or,Bool.false_and] at aY
     rw [Bool.and_eq_true] at aY
     obtain ⟨aN,ax⟩:=aY
     have rE:∃d,y.dst=some d∧d<9999:=by
      cases hF:y.dst with
      |none=>simp [hF] at ax
      |some d=>simp [hF] at ax;exact ⟨d,rfl,ax⟩
     obtain ⟨d,rE,Qm⟩:=rE
     have s3:fN T (evA G aC) (updO objs nk) (y.dst.getD 9999) y.op=some (n8,oW):=by
      unfold res at h9
      simp only [(oU (T:=T) (ev:=evA G aC) (objs:=updO objs nk) aN).1,(oU (T:=T) (ev:=evA G aC) (objs:=updO objs nk) aN).2] at h9
      exact h9
     rw [rE] at s3
     simp only [Option.getD_some] at s3
     obtain ⟨_,aI,o,rfl⟩:=yd (objs':=fun _=>none) aN rfl s3
     obtain ⟨J7,FB⟩:=Qe nk aI
     obtain ⟨aas,_,_⟩:=yd (objs':=objs) aN J7 s3
     have aat:res T G ⟨aC,objs⟩ y=some (n8,[(d,o)]):=by
      unfold res
      simp only [(oU (T:=T) (ev:=evA G aC) (objs:=objs) aN).1,(oU (T:=T) (ev:=evA G aC) (objs:=objs) aN).2,rE,Option.getD_some]
      exact aas
     have hex:fN T (evA G aC) objs (x.dst.getD 9999) x.op=some (rx,nk):=by
      unfold res at iP
      simp only at iP
      split at iP
      ·rename_i aau
       exact absurd (aap aau) (by simp [ah,aT])
      ·split at iP
       ·rename_i Qn
        exact absurd (aaq Qn) (by simp [ah,aT])
       ·exact iP
     have FF:x.dst.getD 9999≠d:=by
      cases FF:x.dst with
      |none=>simp only [Option.getD_none];exact fun e=>by rw [←e] at Qm;exact absurd Qm (Nat.lt_irrefl _)
      |some e=>simp only [Option.getD_some];rintro rfl;exact ae e FF rE
     obtain ⟨Qo,ca⟩:=aah (T:=T) (ev:=evA G aC) (b8.Fv J7 o) FF J7 (fun ar=>by rw [ct _ _ FF];exact ar) hex
     refine J5 aat ⟨nk,?_,rfl,Qc nk ca⟩
     obtain ⟨cg,dK⟩:=aao Qo (b0 objs d (some o))
     show res T G ⟨aC,b0 objs d (some o)⟩ x=some (rx,nk)
     unfold res
     simp only [cg,dK]
     exact Qo
theorem n9{o:Oper}{σ:St}{K K':St→Prop}(ai:∀σ,K σ→K' σ)(h:vDo P T G o K σ):vDo P T G o K' σ:=by
 unfold vDo at*
 split
 ·rename_i e;rw [e] at h;exact ai _ h
 ·rename_i e;rw [e] at h;exact AO h fun r av=>ai _ av
theorem AT{o:Oper}{σ:St}{K K':St→Prop}(ai:∀σ,K σ→K' σ)(h:vOp P T G all o K σ):vOp P T G all o K' σ:=by
 rw [vOp_eq] at*
 split
 ·rename_i e;rw [e] at h;exact n9 ai h
 ·rename_i e;rw [e] at h;exact ai _ h
 ·rename_i e;rw [e] at h;exact h
theorem s5{o:Oper}{σ:St}{K K':St→Prop}(ai:∀objs r,K (St.put ⟨σ.aC,objs⟩ o.dst r)→K' (St.put ⟨σ.aC,objs⟩ o.dst r))(h:vDo P T G o K σ):vDo P T G o K' σ:=by
 unfold vDo at*
 rw [sY] at*
 cases av:res T G σ o with
 |none=>simp only [av,Option.map_none] at h⊢;exact AO h fun r av=>ai σ.objs r av
 |some p=>simp only [av,Option.map_some] at h⊢;exact ai _ _ h
theorem swap{x y:Oper}{σ:St}{K:St→Prop}(kO:x.apart all y=true)(aY:pass x y=true)(h:vOp P T G all x (fun fh=>vOp P T G all y K fh) σ):
  vOp P T G all y (fun eY=>vOp P T G all x K eY) σ:=by
 obtain ⟨ah,aT,bR⟩:=Oper.apart_spec kO
 have mK:∀d,y.dst=some d→x.dst≠some d:=fun d ax ag=>aT d ag ax
 rw [vOp_eq] at h
 have oa:∀(objs:b8) (r:AV),wantA all (St.put ⟨σ.aC,objs⟩ x.dst r) y=wantA all σ y:=fun objs r=>by rw [mI ah];rfl
 have oX:∀(objs:b8) (r:AV),wantA all (St.put ⟨σ.aC,objs⟩ y.dst r) x=wantA all σ x:=fun objs r=>by rw [mI bR];rfl
 split at h
 ·rename_i ag
  rw [vOp_eq]
  have bm:vDo P T G x (fun fh=>match wantA all σ y with
    |some true=>vDo P T G y K fh
    |some false=>K (fh.put y.dst (.d (.val (.tuple #[]))))
    |none=>False) σ:=by
   refine s5 (fun objs r ai=>?_) h
   rw [vOp_eq,oa] at ai
   exact ai
  cases uW:wantA all σ y with
  |none=>
   simp only [uW] at bm
   unfold vDo at bm
   split at bm
   ·exact bm
   ·unfold vCall at bm
    split at bm
    ·split at bm
     ·obtain ⟨_,_,_,_,_,_,⟨r,rfl⟩,_,q⟩:=bm
      exact q r rfl
     ·exact bm
    ·exact bm
  |some b=>
   cases b with
   |false=>
    simp only [uW] at bm
    show vOp P T G all x K (σ.put y.dst (.d (.val (.tuple #[]))))
    rw [vOp_eq]
    have:wantA all (σ.put y.dst (.d (.val (.tuple #[])))) x=some true:=by rw [mI bR];exact ag
    simp only [this]
    rw [hZ bR mK]
    exact bm
   |true=>
    simp only [uW] at bm
    have ae:=Qg ah aT bR aY bm
    show vDo P T G y (fun eY=>vOp P T G all x K eY) σ
    refine s5 (fun objs r ai=>?_) ae
    rw [vOp_eq,oX,ag]
    exact ai
 ·rename_i ag
  rw [vOp_eq,mI ah] at h
  rw [vOp_eq]
  split at h
  ·rename_i aN
   try simp only [aN]
   rw [hZ ah aT] at h
   refine s5 (fun objs r ai=>?_) h
   rw [vOp_eq,oX,ag]
   exact ai
  ·rename_i aN
   try simp only [aN]
   show vOp P T G all x K (σ.put y.dst (.d (.val (.tuple #[]))))
   rw [vOp_eq,mI bR,ag]
   show K _
   rw [put_comm mK]
   exact h
  ·exact h.elim
 ·exact h.elim
theorem aav{o:Oper}{σ:St}{K K':St→Prop}(h:vDo P T G o K σ)(ai:∀aP r,aP=σ.put o.dst (.d r)→K aP→K' aP)(bX:gh o.op=true):vDo P T G o K' σ:=by
 rw [lT (rF bX)] at h⊢
 unfold vCall at*
 split
 ·rename_i x args df dj
  rw [dj] at h
  simp only at h
  split
  ·rename_i f pre post fO
   simp only [fO] at h
   obtain ⟨lr,aF,dQ,ad,ae,ay,aZ,bG,ch⟩:=h
   exact ⟨lr,aF,dQ,ad,ae,ay,aZ,bG,fun r av=>ai _ r rfl (ch r av)⟩
  ·rename_i fO
   simp only [fO] at h
 ·rename_i dj
  split at h
  ·rename_i x args df e;exact absurd e (dj x args df)
  ·exact h
def b8.low(objs objs':b8):Prop:=∀k o,objs k=some o→o≠ .dead→objs' k=some o
theorem Qp{objs objs':b8}(h:objs.low objs'){x:AV}{d:D}(aq:toDa objs x=some d):toDa objs' x=some d:=by
 unfold toDa at*
 split at aq
 ·exact aq
 ·split at aq
  ·rename_i ai;rw [h _ _ ai (by simp)];exact aq
  ·cases aq
 ·split at aq
  ·rename_i ai;rw [h _ _ ai (by simp)];exact aq
  ·cases aq
 ·split at aq
  ·rename_i ai;rw [h _ _ ai (by simp)];exact aq
  ·cases aq
 ·cases aq
theorem FG{objs objs':b8}(h:objs.low objs'){x:AV}{d:D}(aq:toD0 objs x=some d):toD0 objs' x=some d:=by
 unfold toD0 at*
 split at aq
 ·split at aq
  case h_2=>cases aq
  rename_i ai
  simp only [h _ _ ai (by simp)]
  split at aq
  case h_2=>cases aq
  rename_i cs gJ
  rw [ni (fun x d ag=>Qp h ag) _ _ gJ]
  exact aq
 ·exact aq
 ·exact Qp h aq
theorem Qq{objs objs':b8}(h:objs.low objs'){x:AV}{d:D}(aq:toD1 objs x=some d):toD1 objs' x=some d:=by
 unfold toD1 at*
 split at aq
 ·split at aq
  case h_2=>cases aq
  rename_i aF ef
  rw [ni (fun x d ag=>FG h ag) _ _ ef]
  exact aq
 ·split at aq
  case h_2=>cases aq
  rename_i as iq has AL
  rw [ni (fun x d ag=>FG h ag) _ _ has,ni (fun x d ag=>FG h ag) _ _ AL]
  exact aq
 ·exact FG h aq
theorem aaw{objs objs':b8}(h:objs.low objs'){x:AV}{d:D}(aq:toD objs x=some d):toD objs' x=some d:=by
 unfold toD at*
 split at aq
 ·split at aq
  case h_2=>cases aq
  rename_i aF ef
  rw [ni (fun x d ag=>Qq h ag) _ _ ef]
  exact aq
 ·exact Qq h aq
theorem Qr{objs objs':b8}(h:objs.low objs'){x:AV}{n:Nat}(aq:lenA objs x=some n):lenA objs' x=some n:=by
 unfold lenA at*
 split at aq
 ·exact aq
 ·exact aq
 ·split at aq
  ·rename_i ai;rw [h _ _ ai (by simp)];exact aq
  ·cases aq
 ·exact aq
 ·cases aq
theorem FH{objs objs':b8}(h:objs.low objs'){x:AV}{b:Bool}(aq:someS objs x=some b):someS objs' x=some b:=by
 unfold someS at*
 split at aq
 ·exact aq
 ·exact aq
 ·split at aq
  ·rename_i ai;rw [h _ _ ai (by simp)];exact aq
  ·cases aq
 ·cases aq
theorem aax{T:bW}{ev:Operand→AV}{objs objs':b8}(h:objs.low objs'){op:Op}{r:AV}(hm:memOp T ev objs op=some r):memOp T ev objs' op=some r:=by
 cases op<;>simp only [memOp,reduceCtorEq] at hm⊢
 case load t a=>
  split at hm
  case h_2=>cases hm
  split at hm
  ·exact hm
  ·split at hm
   case h_2=>cases hm
   rename_i ai;simp only [h _ _ ai (by simp)];exact hm
  ·split at hm
   case h_2=>cases hm
   rename_i ai;simp only [h _ _ ai (by simp)];exact hm
  ·cases hm
 case indexAddr t x en=>
  split at hm
  ·split at hm
   case h_2=>cases hm
   split at hm
   case isFalse=>cases hm
   rename_i ar
   rw [if_pos ar]
   split at hm
   ·exact hm
   ·split at hm
    case h_2=>cases hm
    rename_i ai;simp only [h _ _ ai (by simp)];exact hm
   ·exact hm
   ·cases hm
  ·exact hm
  ·cases hm
 case slice t x lo af eX=>
  cases eX with
  |some _=>simp [memOp] at hm
  |none=>
   simp only [memOp] at hm⊢
   split at hm
   case h_3=>cases hm
   case h_2=>exact hm
   split at hm
   case h_2=>cases hm
   split at hm
   case h_2=>cases hm
   rename_i n aI
   simp only [Qr h aI]
   split at hm
   case h_2=>cases hm
   split at hm
   case isFalse=>cases hm
   rename_i aj
   rw [if_pos aj]
   split at hm
   ·exact hm
   ·split at hm
    case h_2=>cases hm
    rename_i ai;simp only [h _ _ ai (by simp)];exact hm
   ·exact hm
   ·cases hm
 case call c=>
  split at hm
  case h_2=>cases hm
  split at hm
  case h_2=>cases hm
  split at hm
  ·exact hm
  ·split at hm
   case h_2=>cases hm
   rename_i n aI
   simp only [Qr h aI];exact hm
  ·exact hm
  ·exact hm
  ·split at hm
   case h_2=>cases hm
   rename_i ai;simp only [h _ _ ai (by simp)];exact hm
  ·cases hm
 case lookup t x k ok=>
  split at hm
  case h_2=>cases hm
  split at hm
  ·exact hm
  ·exact hm
  ·split at hm
   case h_2=>cases hm
   rename_i ai;simp only [h _ _ ai (by simp)];exact hm
  ·cases hm
 case binOp op t x y uC=>
  split at hm
  case h_2=>cases hm
  split at hm
  ·split at hm
   ·rename_i aj
    rw [if_pos aj]
    split at hm
    case h_2=>cases hm
    rename_i b ak
    simp only [FH h ak];exact hm
   ·rename_i aj
    rw [if_neg aj]
    split at hm
    case isFalse=>cases hm
    rename_i oV
    rw [if_pos oV]
    split at hm
    case h_2=>cases hm
    rename_i b ak
    simp only [FH h ak];exact hm
  ·split at hm
   ·rename_i aj
    rw [if_pos aj]
    split at hm
    case h_2=>cases hm
    rename_i b ak
    simp only [FH h ak];exact hm
   ·rename_i aj
    rw [if_neg aj]
    split at hm
    case isFalse=>cases hm
    rename_i oV
    rw [if_pos oV]
    split at hm
    case h_2=>cases hm
    rename_i b ak
    simp only [FH h ak];exact hm
  ·cases hm
def bornX(T:bW)(x:Oper):Bool:=match x.op with
 | .buildSlice _ _ _=>T.born (x.dst.getD 9999)
 |_=>false
def uX(T:bW)(x y:Oper):Bool:=pass x y||(gh x.op&&gh y.op)||(bornX T x&&(gh y.op||hN y.op))
theorem aay{x:Oper}{σ:St}(ak:bornX T x=true){p:AV×List (Key×cq)}(h:res T G σ x=some p):σ.objs (x.dst.getD 9999)=none∧p.2=[(x.dst.getD 9999,.dead)]:=by
 unfold bornX at ak
 split at ak
 case h_2=>cases ak
 rename_i t n parts dj
 have ai:n7 x.op=true:=by rw [dj];rfl
 obtain ⟨aS,aV⟩:=oU (T:=T) (ev:=evA G σ.aC) (objs:=σ.objs) ai
 unfold res at h
 rw [aS,aV] at h
 obtain ⟨q,ad,ae⟩:=sV h
 rw [dj] at ad
 simp only [effOp0] at ad
 split at ad
 case h_2=>cases ad
 rename_i e s b z aE ar
 split at ad
 case h_2=>cases ad
 split at ad
 case h_2=>cases ad
 split at ad
 case isFalse=>cases ad
 cases ad
 refine ⟨ar,?_⟩
 rw [←ae]
 simp [bornR,ak]
theorem aaz{x y:Oper}{σ:St}{K:St→Prop}(ad:∀d,x.dst=some d→d∉y.looksAt all)(ae:∀d,x.dst=some d→y.dst≠some d)(ay:∀d,y.dst=some d→d∉x.looksAt all)(FE:gh x.op=true)(aaA:gh y.op=true∨False)
  (h:vDo P T G x (fun fh=>vDo P T G y K fh) σ):vDo P T G y (fun eY=>vDo P T G x K eY) σ:=by
 have fW:∀d,y.dst=some d→x.dst≠some d:=fun d ax ag=>ae d ag ax
 have FI:gh y.op=true:=aaA.resolve_right id
 rw [lT (rF FE)] at h
 unfold vCall at h
 split at h
 case h_2=>cases h
 rename_i Qi args df dj
 split at h
 case h_2=>cases h
 rename_i f pre post fO
 obtain ⟨lr,aF,dQ,br,bo,bT,⟨g8,rfl⟩,dE,eo⟩:=h
 have ye:vDo P T G y K (St.put σ x.dst (.d g8)):=eo g8 rfl
 rw [hZ ad ae] at ye
 refine aav ye (fun aP r he ai=>?_) FI
 subst he
 rw [hZ ay fW,lT (rF FE)]
 unfold vCall
 rw [dj]
 simp only [fO]
 refine ⟨lr,aF,_,br,bo,bT,⟨g8,rfl⟩,dE,fun r av=>?_⟩
 subst av
 rw [put_comm ae]
 exact ai
theorem aaB{x y:Oper}{σ:St}{K:St→Prop}(ad:∀d,x.dst=some d→d∉y.looksAt all)(ae:∀d,x.dst=some d→y.dst≠some d)(ay:∀d,y.dst=some d→d∉x.looksAt all)(FJ:bornX T x=true)(J8:gh y.op=true∨hN y.op=true)
  (h:vDo P T G x (fun fh=>vDo P T G y K fh) σ):vDo P T G y (fun eY=>vDo P T G x K eY) σ:=by
 have fW:∀d,y.dst=some d→x.dst≠some d:=fun d ax ag=>ae d ag ax
 cases iP:res T G σ x with
 |none=>
  rw [lT iP] at h
  have:=uU h
  unfold bornX at FJ
  split at FJ
  ·rename_i dj;rw [dj] at this;cases this
  ·cases FJ
 |some p=>
  obtain ⟨rx,b5⟩:=p
  obtain ⟨aI,hu⟩:=aay FJ iP
  simp only at hu
  subst hu
  rw [kr iP] at h
  have aN:vDo P T G y K (St.put ⟨σ.aC,updO σ.objs [(x.dst.getD 9999,.dead)]⟩ x.dst rx):=h
  rw [hZ ad ae] at aN
  have FK:b8.low (updO σ.objs [(x.dst.getD 9999,.dead)]) σ.objs:=by
   intro k o ai aG
   simp only [updO] at ai
   by_cases e:k=x.dst.getD 9999
   ·subst e;rw [dZ] at ai;cases ai;exact absurd rfl aG
   ·rwa [ct _ _ e] at ai
  rcases J8 with FI|Qs
  case inr=>
   have sX:gh y.op=false:=by
    cases bX:gh y.op with
    |false=>rfl
    |true=>have:=(AN bX).2.1;rw [Qs] at this;cases this
   have key:∀p,res T G ⟨σ.aC,updO σ.objs [(x.dst.getD 9999,.dead)]⟩ y=some p→p.2=[]∧res T G σ y=some p:=by
    intro p aY
    have he:∀objs d,fN T (evA G σ.aC) objs d y.op=none:=fun objs d=>yc Qs
    unfold res at aY⊢
    cases Qt:pureOp T (evA G σ.aC) y.op with
    |some r=>simp only [Qt] at aY⊢;cases aY;exact ⟨rfl,rfl⟩
    |none=>
     simp only [Qt] at aY⊢
     cases AU:memOp T (evA G σ.aC) (updO σ.objs [(x.dst.getD 9999,.dead)]) y.op with
     |none=>simp only [AU,he] at aY;cases aY
     |some r=>
      simp only [AU] at aY
      cases aY
      rw [aax FK AU]
      exact ⟨rfl,rfl⟩
   cases h9:res T G ⟨σ.aC,updO σ.objs [(x.dst.getD 9999,.dead)]⟩ y with
   |none=>
    rw [lT h9] at aN
    have:=uU aN
    rw [sX] at this;cases this
   |some p=>
    obtain ⟨n8,oW⟩:=p
    obtain ⟨cg,dK⟩:=key _ h9
    simp only at cg
    subst cg
    rw [kr h9] at aN
    rw [kr dK]
    show vDo P T G x K (St.put σ y.dst n8)
    rw [hZ ay fW,kr iP]
    unfold St.step
    rw [put_comm ae]
    exact aN
  rw [lT (rF FI)] at aN
  rw [lT (rF FI)]
  unfold vCall at aN⊢
  split at aN
  case h_2=>cases aN
  rename_i Qi args df dj
  split at aN
  case h_2=>cases aN
  rename_i f pre post fO
  obtain ⟨lr,aF,dQ,br,bo,bT,⟨g8,rfl⟩,dE,eo⟩:=aN
  simp only [dj,fO]
  refine ⟨lr,aF,_,ni (fun x d ag=>aaw FK ag) _ _ br,bo,bT,⟨g8,rfl⟩,dE,fun r av=>?_⟩
  subst av
  have:=eo r rfl
  rw [hZ ay fW,kr iP]
  unfold St.step
  rw [put_comm ae]
  exact this
theorem aaC{x y:Oper}{σ:St}{K:St→Prop}(ad:∀d,x.dst=some d→d∉y.looksAt all)(ae:∀d,x.dst=some d→y.dst≠some d)(ay:∀d,y.dst=some d→d∉x.looksAt all)(aY:uX T x y=true)
  (h:vDo P T G x (fun fh=>vDo P T G y K fh) σ):vDo P T G y (fun eY=>vDo P T G x K eY) σ:=by
 unfold uX at aY
 rw [Bool.or_eq_true,Bool.or_eq_true] at aY
 rcases aY with(aY|aY)|aY
 ·exact Qg ad ae ay aY h
 ·rw [Bool.and_eq_true] at aY
  exact aaz ad ae ay aY.1 (.inl aY.2) h
 ·rw [Bool.and_eq_true,Bool.or_eq_true] at aY
  exact aaB ad ae ay aY.1 aY.2 h
theorem swapT{x y:Oper}{σ:St}{K:St→Prop}(kO:x.apart all y=true)(aY:uX T x y=true)(h:vOp P T G all x (fun fh=>vOp P T G all y K fh) σ):
  vOp P T G all y (fun eY=>vOp P T G all x K eY) σ:=by
 obtain ⟨ah,aT,bR⟩:=Oper.apart_spec kO
 have mK:∀d,y.dst=some d→x.dst≠some d:=fun d ax ag=>aT d ag ax
 rw [vOp_eq] at h
 have oa:∀(objs:b8) (r:AV),wantA all (St.put ⟨σ.aC,objs⟩ x.dst r) y=wantA all σ y:=fun objs r=>by rw [mI ah];rfl
 have oX:∀(objs:b8) (r:AV),wantA all (St.put ⟨σ.aC,objs⟩ y.dst r) x=wantA all σ x:=fun objs r=>by rw [mI bR];rfl
 split at h
 ·rename_i ag
  rw [vOp_eq]
  have bm:vDo P T G x (fun fh=>match wantA all σ y with
    |some true=>vDo P T G y K fh
    |some false=>K (fh.put y.dst (.d (.val (.tuple #[]))))
    |none=>False) σ:=by
   refine s5 (fun objs r ai=>?_) h
   rw [vOp_eq,oa] at ai
   exact ai
  cases uW:wantA all σ y with
  |none=>
   simp only [uW] at bm
   unfold vDo at bm
   split at bm
   ·exact bm
   ·unfold vCall at bm
    split at bm
    ·split at bm
     ·obtain ⟨_,_,_,_,_,_,⟨r,rfl⟩,_,q⟩:=bm
      exact q r rfl
     ·exact bm
    ·exact bm
  |some b=>
   cases b with
   |false=>
    simp only [uW] at bm
    show vOp P T G all x K (σ.put y.dst (.d (.val (.tuple #[]))))
    rw [vOp_eq]
    have:wantA all (σ.put y.dst (.d (.val (.tuple #[])))) x=some true:=by rw [mI bR];exact ag
    simp only [this]
    rw [hZ bR mK]
    exact bm
   |true=>
    simp only [uW] at bm
    have ae:=aaC ah aT bR aY bm
    show vDo P T G y (fun eY=>vOp P T G all x K eY) σ
    refine s5 (fun objs r ai=>?_) ae
    rw [vOp_eq,oX,ag]
    exact ai
 ·rename_i ag
  rw [vOp_eq,mI ah] at h
  rw [vOp_eq]
  split at h
  ·rename_i aN
   try simp only [aN]
   rw [hZ ah aT] at h
   refine s5 (fun objs r ai=>?_) h
   rw [vOp_eq,oX,ag]
   exact ai
  ·rename_i aN
   try simp only [aN]
   show vOp P T G all x K (σ.put y.dst (.d (.val (.tuple #[]))))
   rw [vOp_eq,mI bR,ag]
   show K _
   rw [put_comm mK]
   exact h
  ·exact h.elim
 ·exact h.elim
def amOp(P:Program)(T:bW)(G:cV)(all:Array Oper)(i:Nat)(K:St→Prop)(σ:St):Prop:=
 match all[i]? with
 |none=>K σ
 |some o=>vOp P T G all o K σ
theorem s6{i:Nat}{σ:St}{K K':St→Prop}(ai:∀σ,K σ→K' σ)(h:amOp P T G all i K σ):amOp P T G all i K' σ:=by
 unfold amOp at*
 split
 ·rename_i e;simp only [e] at h;exact ai _ h
 ·rename_i o e;simp only [e] at h;exact AT ai h
def hO(P:Program)(T:bW)(G:cV)(all:Array Oper)(K:St→Prop):Nat→Array Bool→St→Prop
 |0,listed,σ=>Region.ready .any all listed=[]∧K σ
 |fuel+1,listed,σ=>
  (Region.ready .any all listed=[]→K σ)∧∀i∈Region.ready .any all listed,amOp P T G all i (hO P T G all K fuel (listed.setIfInBounds i true)) σ
theorem J9{K:St→Prop}{i:Nat}{ej:Oper}(af:all[i]?=some ej){B:List Nat}(fx:∀j cF,j∈B→all[j]?=some cF→∃e∈cF.after,Region.binds .any e=true∧(e.on=i∨e.on∈B)):∀(fuel:Nat) (listed:Array Bool) (σ:St),
  (∀j,j∈B→listed.getD j true=false)→
  (∀j cF,all[j]?=some cF→j≠i→listed.getD j true=false→j∉B→ej.apart all cF=true∧uX T ej cF=true)→
  i∈Region.ready .any all listed→(¬∃aP,K aP)∨True→amOp P T G all i (hO P T G all K fuel (listed.setIfInBounds i true)) σ→hO P T G all K (fuel+1) listed σ:=by
 intro fuel
 induction fuel with
 |zero=>
  intro listed σ oY mL av _ H
  refine ⟨fun h=>(by rw [h] at av;cases av),fun j aH=>?_⟩
  by_cases hP:j=i
  ·subst hP;exact H
  ·have hm:=ready_mono aH hP
   exfalso
   have key:Region.ready .any all (listed.setIfInBounds i true)=[]:=by
    unfold amOp at H
    simp only [af] at H
    rw [vOp_eq] at H
    split at H
    ·unfold vDo at H
     split at H
     ·exact H.1
     ·unfold vCall at H
      split at H
      ·split at H
       ·obtain ⟨_,_,_,_,_,_,⟨r,lU⟩,_,q⟩:=H
        exact (q r (by rw [lU])).1
       ·exact H.elim
      ·exact H.elim
    ·exact H.1
    ·exact H.elim
   rw [key] at hm;cases hm
 |succ fuel ih=>
  intro listed σ oY mL av _ H
  refine ⟨fun h=>(by rw [h] at av;cases av),fun j aH=>?_⟩
  by_cases hP:j=i
  ·subst hP;exact H
  ·obtain ⟨s7,cF,hQ,ft⟩:=mem_ready.1 aH
   have ry:∀k,listed.getD k true=false→listed[k]?.getD false=true→False:=fun k ar ad=>by
    rcases Nat.lt_or_ge k listed.size with bm|bm
    ·simp [bm] at ar ad;rw [ar] at ad;cases ad
    ·simp [Array.getElem?_eq_none bm] at ad
   have s8:j∉B:=fun AW=>by
    obtain ⟨e,he,ak,kP⟩:=fx j cF AW hQ
    have ad:=ft e he ak
    rcases kP with kP|kP
    ·rw [kP] at ad
     exact ry i (mem_ready.1 av).1 (by simpa using ad)
    ·exact ry _ (oY _ kP) (by simpa using ad)
   obtain ⟨eG,dR⟩:=mL j cF hQ hP s7 s8
   have ad:amOp P T G all i (fun fh=>amOp P T G all j (hO P T G all K fuel ((listed.setIfInBounds i true).setIfInBounds j true)) fh) σ:=s6 (fun fh rG=>rG.2 j (ready_mono aH hP)) H
   have ae:amOp P T G all j (fun eY=>amOp P T G all i (hO P T G all K fuel ((listed.setIfInBounds i true).setIfInBounds j true)) eY) σ:=by
    unfold amOp at ad⊢
    simp only [af,hQ] at ad⊢
    exact swapT eG dR ad
   have AX:∀k ok,all[k]?=some ok→k≠i→(listed.setIfInBounds j true).getD k true=false→
     k∉B→ej.apart all ok=true∧uX T ej ok=true:=fun k ok ai oZ mM gU=>by
    refine mL k ok ai oZ ?_ gU
    by_cases fg:j=k
    ·subst fg;exact s7
    ·rw [getD_set_ne true fg] at mM;exact mM
   refine s6 (fun eY ay=>ih (listed.setIfInBounds j true) eY (fun k ai=>by
    have fg:j≠k:=by rintro rfl;exact s8 ai
    rw [getD_set_ne true fg];exact oY k ai) AX (ready_mono av (Ne.symm hP)) (.inr trivial) ?_) ae
   rw [Array.setIfInBounds_comm _ _ hP]
   exact ay
theorem aaD{K:St→Prop}{i:Nat}{ej:Oper}(af:all[i]?=some ej){B:List Nat}(fx:∀j cF,j∈B→all[j]?=some cF→∃e∈cF.after,Region.binds .any e=true∧(e.on=i∨e.on∈B))(fuel:Nat)(listed:Array Bool)(σ:St)
  (ar:∀j,j∈B→listed.getD j true=false)
  (a6:∀j cF,all[j]?=some cF→j≠i→listed.getD j true=false→j∉B→ej.apart all cF=true∧pass ej cF=true)
  (av:i∈Region.ready .any all listed) (ag:(¬∃aP,K aP)∨True) (h:amOp P T G all i (hO P T G all K fuel (listed.setIfInBounds i true)) σ):hO P T G all K (fuel+1) listed σ:=
 J9 af fx fuel listed σ ar (fun j cF a b c d=>⟨(a6 j cF a b c d).1,by unfold uX;rw [(a6 j cF a b c d).2];rfl⟩) av ag h
def waits(all:Array Oper)(i:Nat):List Nat:=
 (List.range all.size).foldl (fun acc j=>match all[j]? with
  |some cF=>if cF.after.any (fun e=>Region.binds .any e&&(e.on==i||acc.contains e.on)) then acc++[j] else acc
  |none=>acc) []
def FL(p:Oper→Oper→Bool)(all:Array Oper)(listed:Array Bool)(i:Nat)(B:List Nat):Bool:=
 match all[i]? with
 |none=>false
 |some ej=>(B.all fun j=>!listed.getD j true&&match all[j]? with
   |some cF=>cF.after.any fun e=>Region.binds .any e&&(e.on==i||B.contains e.on)
   |none=>false)&&(List.range all.size).all fun j=>j==i||listed.getD j true||B.contains j||match all[j]? with
   |some cF=>ej.apart all cF&&p ej cF
   |none=>true
def Qu(all:Array Oper)(listed:Array Bool)(i:Nat)(B:List Nat):Bool:=FL pass all listed i B
def aaE(all:Array Oper)(listed:Array Bool)(i:Nat):Bool:=Qu all listed i (waits all i)
def Qv(T:bW)(all:Array Oper)(listed:Array Bool)(i:Nat):Bool:=FL (uX T) all listed i (waits all i)
theorem Ka{p:Oper→Oper→Bool}{i:Nat}{ej:Oper}{listed:Array Bool}(af:all[i]?=some ej){B:List Nat}(h:FL p all listed i B=true):
  (∀j cF,j∈B→all[j]?=some cF→∃e∈cF.after,Region.binds .any e=true∧(e.on=i∨e.on∈B))∧(∀j,j∈B→listed.getD j true=false)∧
  ∀j cF,all[j]?=some cF→j≠i→listed.getD j true=false→j∉B→ej.apart all cF=true∧p ej cF=true:=by
 simp only [FL,af,Bool.and_eq_true,List.all_eq_true,List.mem_range] at h
 refine ⟨fun j cF aH hQ=>?_,fun j aH=>by simpa using(h.1 j aH).1,fun j cF hQ ca mM gU=>?_⟩
 ·have ad:=(h.1 j aH).2
  simp only [hQ] at ad
  obtain ⟨e,he,ak⟩:=Array.any_eq_true'.1 ad
  simp only [Bool.and_eq_true,Bool.or_eq_true,beq_iff_eq,List.contains_iff_mem] at ak
  exact ⟨e,he,ak.1,ak.2⟩
 ·have ad:=h.2 j (Array.getElem?_eq_some_iff.1 hQ).1
  simp only [hQ,Bool.or_eq_true,beq_iff_eq,ca,false_or,mM,Bool.false_eq_true,Bool.and_eq_true,List.contains_iff_mem,gU] at ad
  exact ad
theorem aaF{i:Nat}{ej:Oper}{listed:Array Bool}(af:all[i]?=some ej){B:List Nat}(h:Qu all listed i B=true):
  (∀j cF,j∈B→all[j]?=some cF→∃e∈cF.after,Region.binds .any e=true∧(e.on=i∨e.on∈B))∧(∀j,j∈B→listed.getD j true=false)∧
  ∀j cF,all[j]?=some cF→j≠i→listed.getD j true=false→j∉B→ej.apart all cF=true∧pass ej cF=true:=Ka af h
def ordFrom(T:bW)(all:Array Oper):List Nat→Array Bool→Bool
 |[],listed=>(Region.ready .any all listed).isEmpty
 |i::r,listed=>(Region.ready .any all listed).contains i&&Qv T all listed i&&ordFrom T all r (listed.setIfInBounds i true)
def vOrd(P:Program)(T:bW)(G:cV)(all:Array Oper):List Nat→(St→Prop)→St→Prop
 |[],K,σ=>K σ
 |i::r,K,σ=>match all[i]? with
  |some o=>vOp P T G all o (vOrd P T G all r K) σ
  |none=>False
theorem Qw{K:St→Prop}:∀(ord:List Nat) (listed:Array Bool) (σ:St),ordFrom T all ord listed=true→vOrd P T G all ord K σ→hO P T G all K ord.length listed σ
 |[],listed,σ,fx,h=>⟨by simpa [ordFrom] using fx,h⟩
 |i::r,listed,σ,fx,h=>by
  simp only [ordFrom,Bool.and_eq_true] at fx
  obtain ⟨⟨av,a6⟩,rH⟩:=fx
  unfold vOrd at h
  split at h
  case h_2=>cases h
  rename_i o af
  obtain ⟨br,bo,bT⟩:=Ka af a6
  refine J9 af br r.length listed σ bo bT (by simpa using av) (.inr trivial) ?_
  unfold amOp
  simp only [af]
  exact AT (fun aP rG=>Qw r _ aP rH rG) h
theorem Kb{m:Mem}{fr:eF}{N:Nat}(a4:dk P T){K:St→Prop}{Q:Exit→Act→World→Prop}(fG:∀o∈all,∀d,o.dst=some d→d<N):∀(fuel:Nat) (listed:Array Bool) (m:Mem) (ρ:cP) (σ:St) (a:Act) (w:World),
  iL G m→Den m fr ρ σ a w→N≤a.tmps.size→a.defers=[]→hO P T G all K fuel listed σ→(∀cu w',hE N m fr ρ σ K cu w'→Q .normal cu w')→wpAny P .any all Q fuel listed a w
 |0,listed,m,ρ,σ,a,w,cA,h,bV,gf,aM,gL=>⟨aM.1,gL a w ⟨σ,m,ρ,aM.2,Mem.le_refl m,h,bV,gf,jG.refl _ _⟩⟩
 |fuel+1,listed,m,ρ,σ,a,w,cA,h,bV,gf,aM,gL=>by
  refine ⟨fun ar=>gL a w ⟨σ,m,ρ,aM.1 ar,Mem.le_refl m,h,bV,gf,jG.refl _ _⟩,fun i af=>?_⟩
  have ad:=aM.2 i af
  obtain ⟨_,o,aG,_⟩:=mem_ready.1 af
  unfold amOp at ad
  simp only [aG] at ad
  refine wpOp_mono ?_ (vOp_ok a4 cA h bV gf aG (fG o (Array.mem_of_getElem? aG)) ad)
  rintro cu w' ⟨aP,cd,cr,br,bo,bT,dd,dE,eo⟩
  refine Kb (m:=m) a4 fG fuel _ cd cr aP cu w' (cA.mono bo) bT dd dE br ?_
  rintro nm jf ⟨o0,uY,uZ,eG,dR,gH,o1,u0,u1⟩
  exact gL nm jf ⟨o0,uY,uZ,eG,Mem.le_trans bo dR,gH,o1,u0,eo.trans u1⟩
end
end Go.Am
namespace Go.Am
set_option linter.unusedVariables false
def fX(σ τ:St):Prop:=∀m fr ρ a w,Den m fr ρ σ a w→∃cd cr,m.le cd∧Den cd fr cr τ a w∧jG σ ρ τ cr
theorem fX.refl(σ:St):fX σ σ:=fun m fr ρ a w h=>⟨m,ρ,Mem.le_refl m,h,jG.refl _ _⟩
theorem fX.trans{σ τ u2:St}(h:fX σ τ)(bm:fX τ u2):fX σ u2:=fun m fr ρ a w cv=>
 let⟨e9,lq,ad,ae,ay⟩:=h m fr ρ a w cv
 let⟨jY,jH,aZ,bG,ch⟩:=bm e9 fr lq a w ae
 ⟨jY,jH,Mem.le_trans ad aZ,bG,ay.trans ch⟩
def fY(P:Program)(T:bW)(G:cV)(N:Nat)(c:Code)(σ:St)(Q:Exit→St→Prop):Prop:=
 ∀m fr ρ a w,iL G m→Den m fr ρ σ a w→N≤a.tmps.size→a.defers=[]→c.wp P (fun e cu w'=>hE N m fr ρ σ (Q e) cu w') a w
def thenQ(K:St→Prop)(Q:Exit→St→Prop):Exit→St→Prop
 | .normal,σ=>K σ
 |e,σ=>Q e σ
def inBlockQ(id:Nat)(Q:Exit→St→Prop):Exit→St→Prop
 | .exit rI,σ=>if rI=id then Q .normal σ else Q (.exit rI) σ
 |e,σ=>Q e σ
section
variable{P:Program}{T:bW}{G:cV}{N:Nat}{σ:St}{Q:Exit→St→Prop}
theorem hE.mono{m:Mem}{fr:eF}{ρ:cP}{K K':St→Prop}(ai:∀σ,K σ→K' σ){a:Act}{w:World}(h:hE N m fr ρ σ K a w):hE N m fr ρ σ K' a w:=
 let⟨aP,cd,cr,ad,ae⟩:=h;⟨aP,cd,cr,ai _ ad,ae⟩
theorem yf{c:Code}{Qx:Exit→St→Prop}(h:fY P T G N c σ Q)(bL:∀e σ,Q e σ→Qx e σ):fY P T G N c σ Qx:=
 fun m fr ρ a w cA cv bV ax=>wp_mono (h m fr ρ a w cA cv bV ax) fun e cu w' av=>av.mono (bL e)
theorem aaG(h:Q .normal σ):fY P T G N .skip σ Q:=fun m fr ρ a w cA cv bV ax=>wp_skip ⟨σ,m,ρ,h,Mem.le_refl m,cv,bV,ax,jG.refl _ _⟩
theorem aaH{l:Nat}(h:Q .normal σ):fY P T G N (.label l) σ Q:=fun m fr ρ a w cA cv bV ax=>wp_label ⟨σ,m,ρ,h,Mem.le_refl m,cv,bV,ax,jG.refl _ _⟩
theorem aaI{id:Nat}(h:Q (.exit id) σ):fY P T G N (.exit id) σ Q:=fun m fr ρ a w cA cv bV ax=>wp_exit ⟨σ,m,ρ,h,Mem.le_refl m,cv,bV,ax,jG.refl _ _⟩
theorem aaJ(h:Q .ret σ):fY P T G N .ret σ Q:=fun m fr ρ a w cA cv bV ax=>wp_ret ⟨σ,m,ρ,h,Mem.le_refl m,cv,bV,ax,jG.refl _ _⟩
theorem hE.trans{m e9:Mem}{fr:eF}{ρ lq:cP}{fh:St}{K:St→Prop}{a:Act}{w:World}(hm:m.le e9)(ai:jG σ ρ fh lq)(h:hE N e9 fr lq fh K a w):hE N m fr ρ σ K a w:=
 let⟨aP,cd,cr,ad,ae,ay,aZ,bG,ch⟩:=h;⟨aP,cd,cr,ad,Mem.le_trans hm ae,ay,aZ,bG,ai.trans ch⟩
theorem aaK{x y:Code}(h:fY P T G N x σ (thenQ (fun aP=>fY P T G N y aP Q) Q)):fY P T G N (.seq x y) σ Q:=by
 intro m fr ρ a w cA cv bV ax
 refine wp_seq (wp_mono (h m fr ρ a w cA cv bV ax) ?_)
 rintro e cu w' ⟨aP,cd,cr,ad,ae,ay,aZ,bG,ch⟩
 cases e with
 |normal=>exact wp_mono (ad cd fr cr cu w' (cA.mono ae) ay aZ bG) fun e nm jf av=>av.trans ae ch
 |exit id=>exact ⟨aP,cd,cr,ad,ae,ay,aZ,bG,ch⟩
 |goto l=>exact ⟨aP,cd,cr,ad,ae,ay,aZ,bG,ch⟩
 |ret=>exact ⟨aP,cd,cr,ad,ae,ay,aZ,bG,ch⟩
 |panic c=>exact ⟨aP,cd,cr,ad,ae,ay,aZ,bG,ch⟩
 |outgrown=>exact ⟨aP,cd,cr,ad,ae,ay,aZ,bG,ch⟩
def aaL(Q:Exit→St→Prop):Exit→St→Prop
 | .goto _,_=>False
 |e,σ=>Q e σ
theorem aaM{c:Code}(h:fY P T G N c σ (aaL Q)):fY P T G N (.scope c) σ Q:=by
 intro m fr ρ a w cA cv bV ax
 refine wp_scope_straight (wp_mono (h m fr ρ a w cA cv bV ax) ?_)
 rintro e cu w' ⟨aP,cd,cr,ad,ae,ay,aZ,bG,ch⟩
 cases e with
 |goto l=>exact ad.elim
 |normal=>exact ⟨aP,cd,cr,ad,ae,ay,aZ,bG,ch⟩
 |exit id=>exact ⟨aP,cd,cr,ad,ae,ay,aZ,bG,ch⟩
 |ret=>exact ⟨aP,cd,cr,ad,ae,ay,aZ,bG,ch⟩
 |panic c=>exact ⟨aP,cd,cr,ad,ae,ay,aZ,bG,ch⟩
 |outgrown=>exact ⟨aP,cd,cr,ad,ae,ay,aZ,bG,ch⟩
theorem FM{c:Operand}{x y:Code}{b:Bool}(aj:evA G σ.aC c= .d (.val (.bool b)))(h:if b=true then fY P T G N x σ Q else fY P T G N y σ Q):fY P T G N (.cond c x y) σ Q:=by
 intro m fr ρ a w cA cv bV ax
 have aM:=As (a:=a) cA cv.aC c
 rw [aj] at aM
 refine wp_cond aM.gA ?_
 cases b
 ·exact h m fr ρ a w cA cv bV ax
 ·exact h m fr ρ a w cA cv bV ax
theorem aaN{id:Nat}{c:Code}(h:fY P T G N c σ (inBlockQ id Q)):fY P T G N (.block id c) σ Q:=by
 intro m fr ρ a w cA cv bV ax
 refine wp_block (wp_mono (h m fr ρ a w cA cv bV ax) ?_)
 intro e cu w' av
 cases e with
 |exit rI=>
  simp only [Exit.inBlock]
  by_cases af:rI=id
  ·rw [if_pos af]
   exact av.mono fun σ bL=>by simp only [inBlockQ,af,if_true] at bL;exact bL
  ·rw [if_neg af]
   exact av.mono fun σ bL=>by simp only [inBlockQ,af,if_false] at bL;exact bL
 |normal=>exact av
 |goto l=>exact av
 |ret=>exact av
 |panic c=>exact av
 |outgrown=>exact av
theorem Kc{τ:St}{c:Code}(he:fX σ τ)(h:fY P T G N c τ Q):fY P T G N c σ Q:=by
 intro m fr ρ a w cA cv bV ax
 obtain ⟨cd,cr,ad,ae,ay⟩:=he m fr ρ a w cv
 exact wp_mono (h cd fr cr a w (cA.mono ad) ae bV ax) fun e cu w' av=>av.trans ad ay
def dstOk(N:Nat)(ops:Array Oper):Bool:=ops.toList.all fun o=>match o.dst with
 |some d=>decide (d<N)
 |none=>true
theorem s9{ops:Array Oper}(h:dstOk N ops=true):∀o∈ops,∀d,o.dst=some d→d<N:=by
 intro o aG d ax
 have:=List.all_eq_true.1 h o (by simpa using aG)
 simp only [ax] at this
 simpa using this
theorem Den.drew{m:Mem}{fr:eF}{ρ:cP}{a:Act}{w:World}(h:Den m fr ρ σ a w)(n:Nat):Den m fr ρ σ a {w with drawn:=n}:=by
 refine ⟨h.mem,⟨h.frame.nY,h.frame.quiet.same rfl rfl rfl⟩,h.apart,h.one,h.aC,?_,h.own,h.sep⟩
 intro k o ai
 exact (h.objs k o ai).mono (Mem.le_refl m) (fun _ hu=>⟨hu,rfl⟩) (fun b _ _=>rfl)
theorem aaO(a4:dk P T)(hm:P.follows .mixedOrders=true){id:Nat}{ops:Array Oper}(bV:dstOk N ops=true)(ord:List Nat)(hlen:ord.length=ops.size)(yg:ordFrom T ops ord (Array.replicate ops.size false)=true)
  (h:vOrd P T G ops ord (Q .normal) σ):fY P T G N (.region id ops true) σ Q:=by
 intro m fr ρ a w cA cv lV ax
 refine wp_region_any hm ?_
 have ad:=Qw ord (Array.replicate ops.size false) σ yg h
 rw [hlen] at ad
 exact Kb (m:=m) (fr:=fr) (N:=N) (Q:=fun e cu w'=>hE N m fr ρ σ (Q e) cu w') a4 (s9 bV) ops.size _ m ρ σ a _ cA (cv.drew _) lV ax ad (fun cu w' av=>av)
theorem aaP{ι:Type}{c:Code}{Q:Exit→Act→World→Prop}{a:Act}{w:World}(dW:ι→Act→World→Prop)(ta:ι→Nat)(i0:ι)(aaQ:dW i0 a w)
  (round:∀i a w,dW i a w→c.wp P (Exit.then (fun cu w'=>∃j,dW j cu w'∧ta j<ta i) Q) a w):(Code.loop c).wp P Q a w:=by
 intro b k cs
 have key:∀n i a w,ta i=n→dW i a w→∃e cu w',Q e cu w'∧Arrives P (lone (b.at a (.code c:: .inLoop c::k)) cs w) b k cs e cu w':=by
  intro n
  induction n using Nat.strongRecOn with
  |_ n ih=>
   intro i a w aI dX
   obtain ⟨e,yh,yi,bL,tb⟩:=round i a w dX b (.inLoop c::k) cs
   cases e with
   |normal=>
    obtain ⟨j,aaR,bJ⟩:=bL
    obtain ⟨aaS,aaT,aaU,aaV,aaW⟩:=ih (ta j) (aI▸bJ) j yh yi rfl aaR
    exact ⟨aaS,aaT,aaU,aaV,.of_steps (Steps.trans tb (.one step_inLoop)) aaW⟩
   |exit id=>exact ⟨_,yh,yi,bL,.pass (x:= .inLoop c) rfl (fun _ _=> .inl (by simp)) tb⟩
   |goto l=>exact ⟨_,yh,yi,bL,.pass (x:= .inLoop c) rfl (fun _ _=> .inl (by simp)) tb⟩
   |ret=>exact ⟨_,yh,yi,bL,.pass (x:= .inLoop c) rfl (fun _ _=> .inl (by simp)) tb⟩
   |panic asz=>exact ⟨_,yh,yi,bL,.pass (x:= .inLoop c) rfl (fun _ _=> .inl (by simp)) tb⟩
   |outgrown=>exact ⟨_,yh,yi,bL,.pass (x:= .inLoop c) rfl (fun _ _=> .inl (by simp)) tb⟩
 obtain ⟨e,cu,w',bL,tb⟩:=key _ i0 a w rfl aaQ
 exact ⟨e,cu,w',bL,.of_steps (.one step_loop) tb⟩
theorem aaX{ι:Type}{c:Code}(dW:ι→St)(ta:ι→Nat)(i0:ι)(ar:fX σ (dW i0))
  (round:∀i,fY P T G N c (dW i) (thenQ (fun aP=>∃j,fX aP (dW j)∧ta j<ta i) Q)):fY P T G N (.loop c) σ Q:=by
 intro m fr ρ a w cA cv bV ax
 refine aaP (fun i a w=>∃e9 lq,m.le e9∧Den e9 fr lq (dW i) a w∧N≤a.tmps.size∧a.defers=[]∧jG σ ρ (dW i) lq) ta i0 ?_ ?_
 ·obtain ⟨cd,cr,ad,ae,ay⟩:=ar m fr ρ a w cv
  exact ⟨cd,cr,ad,ae,bV,ax,ay⟩
 ·rintro i ah lv ⟨e9,lq,a0,a9,bH,ei,hH⟩
  refine wp_mono (round i e9 fr lq ah lv (cA.mono a0) a9 bH ei) ?_
  intro e cu w' av
  have lU:=av.trans a0 hH
  cases e with
  |normal=>
   obtain ⟨aP,cd,cr,⟨j,aH,bJ⟩,ae,ay,aZ,bG,ch⟩:=lU
   obtain ⟨jY,jH,br,bo,bT⟩:=aH cd fr cr cu w' ay
   exact ⟨j,⟨jY,jH,Mem.le_trans ae br,bo,aZ,bG,ch.trans bT⟩,bJ⟩
  |exit id=>exact lU
  |goto l=>exact lU
  |ret=>exact lU
  |panic c=>exact lU
  |outgrown=>exact lU
def resOne(T:bW)(σ:St):ResultVar→Option AV
 | .tmp t=>some (σ.aC t)
 | .cell a t=>match T t,σ.aC a with
  |some i,.ptr k off=>match σ.objs k with
   |some (.box cells)=>sM i cells off
   |_=>none
  |_,_=>none
def resA(T:bW)(σ:St)(rs:List ResultVar):Option AV:=
 match allSome (rs.map (resOne T σ)) with
 |some [x]=>some x
 |some l=>some (.aO l)
 |none=>none
theorem aaY(a4:dk P T){m:Mem}{fr:eF}{ρ:cP}{a:Act}{w:World}(h:Den m fr ρ σ a w){tc:ResultVar}{x:AV}(ag:resOne T σ tc=some x):
  ∃v,((match tc with
   | .tmp t=>pure (a.tmps.getD t undef)
   | .cell hX t=>do loadVar t (←asAddr (a.tmps.getD hX undef)):Sem Value)).run P w= .ok v w∧bI m ρ σ.used x v:=by
 cases tc with
 |tmp t=>simp only [resOne,Option.some.injEq] at ag;subst ag;exact ⟨_,rfl,h.aC t⟩
 |cell hX t=>
  simp only [resOne] at ag
  split at ag
  case h_2=>cases ag
  rename_i i k off aE az
  split at ag
  case h_2=>cases ag
  rename_i cells ai
  have aB:=h.aC hX
  rw [az] at aB
  generalize uD:a.tmps.getD hX undef=u at aB
  cases aB with|ptr _ _ b hu av=>
  obtain ⟨b',vs,dD,aS,aV,bz,cB⟩:=h.objs _ _ ai
  rw [av] at aS
  cases aS
  obtain ⟨v,ff,fo⟩:=Pr (P:=P) a4 aE aV ⟨bz,cB⟩ ag
  exact ⟨v,by simp only [uD,asAddr,Sem.run_bind,Sem.run_pure,Result.andThen_ok,ff],fo⟩
theorem Qy(a4:dk P T){m:Mem}{fr:eF}{ρ:cP}{a:Act}{w:World}(h:Den m fr ρ σ a w):∀(rs:List ResultVar) (xs:List AV),allSome (rs.map (resOne T σ))=some xs→
  ∃vs:List Value,(rs.mapM fun
   | .tmp t=>pure (a.tmps.getD t undef)
   | .cell hX t=>do loadVar t (←asAddr (a.tmps.getD hX undef)):Sem (List Value)).run P w= .ok vs w∧vs.length=xs.length∧∀(i:Nat) (x:AV) (v:Value),xs[i]?=some x→vs[i]?=some v→bI m ρ σ.used x v
 |[],xs,ag=>by simp [allSome] at ag;subst ag;exact ⟨[],by simp,rfl,by simp⟩
 |tc::rs,xs,ag=>by
  simp only [List.map_cons] at ag
  cases ad:resOne T σ tc with
  |none=>simp [ad,allSome] at ag
  |some x=>
   rw [ad] at ag
   simp only [allSome] at ag
   split at ag
   case h_2=>cases ag
   rename_i l aq
   cases ag
   obtain ⟨v,ff,fo⟩:=aaY (P:=P) a4 h ad
   obtain ⟨vs,ob,Kd,aaZ⟩:=Qy a4 h rs l aq
   refine ⟨v::vs,?_,by simp [Kd],?_⟩
   ·simp only [List.mapM_cons,Sem.run_bind,ff,ob,Result.andThen_ok,Sem.run_pure]
   ·intro i y u aN hu
    cases i with
    |zero=>simp at aN hu;subst aN;subst hu;exact fo
    |succ i=>exact aaZ i y u (by simpa using aN) (by simpa using hu)
theorem Qz(a4:dk P T){m:Mem}{fr:eF}{ρ:cP}{a:Act}{w:World}(h:Den m fr ρ σ a w){fn:Func}{x:AV}(ag:resA T σ fn.results.toList=some x):
  ∃v,(results fn a.tmps).run P w= .ok v w∧bI m ρ σ.used x v:=by
 unfold resA at ag
 cases aq:allSome (fn.results.toList.map (resOne T σ)) with
 |none=>simp [aq] at ag
 |some xs=>
  obtain ⟨vs,ff,fo,ob⟩:=Qy (P:=P) a4 h fn.results.toList xs aq
  have hf:((fn.results.mapM fun
   | .tmp t=>pure (a.tmps.getD t undef)
   | .cell hX t=>do loadVar t (←asAddr (a.tmps.getD hX undef)):Sem (Array Value))).run P w= .ok vs.toArray w:=by
   rw [Array.mapM_eq_mapM_toList,Sem.run_map,ff]
   rfl
  have yj:(results fn a.tmps).run P w= .ok (if h:vs.toArray.size=1 then vs.toArray[0] else .tuple vs.toArray) w:=by
   unfold results
   rw [Sem.run_bind]
   exact (congrArg (fun r=>Result.andThen r _) hf).trans rfl
  rw [yj]
  rw [aq] at ag
  split at ag
  ·rename_i y he
   cases ag
   cases he
   match vs,fo,ob with
   |[v],_,ob=>exact ⟨v,by simp,ob 0 _ _ rfl rfl⟩
  ·rename_i l ca he
   cases ag
   cases he
   have fE:vs.toArray.size≠1:=by
    intro ad
    have:xs.length=1:=by rw [←fo];simpa using ad
    obtain ⟨y,aN⟩:=List.length_eq_one_iff.1 this
    exact ca y aN
   refine ⟨.tuple vs.toArray,?_,.aO _ _ (by simpa using fo) (fun i c v aj aM=>ob i c v aj (by simpa using aM))⟩
   rw [dif_neg fE]
  ·cases ag
def start(args:List AV)(E:b8):St:=⟨fun t=>args.getD t .any,E⟩
theorem aa0(a4:dk P T){f:FuncId}{fn:Func}{c:Code}{aF:List D}{dQ:D→Prop}(a6:P.funcs[f]?=some fn)(ak:fn.body=some c)(FN:(fn.name== "runtime.NumGoroutine")=false)(hlen:aF.length≤fn.ntmps)
  (h:fY P T G fn.ntmps c (start (aF.map .d) fun _=>none) fun e aP=>(e= .normal∨e= .ret)∧∃r d x,resA T aP fn.results.toList=some r∧toD aP.objs r=some d∧d.le x∧dQ x):dz P G f aF dQ:=by
 refine ⟨⟨fn,a6,FN,by rw [ak];rfl⟩,?_⟩
 intro m fr w vs cA cY cv
 refine calls_of_wp a6 ak ?_
 have AY:Den m fr (fun _=>undef) (start (aF.map .d) fun _=>none) {tmps:=vs.toArray++Array.replicate (fn.ntmps-vs.toArray.size) undef,defers:=[]} w:=by
  refine ⟨cY.mem,cY.frame,cY.apart,?_,?_,?_,?_,?_⟩
  ·rintro k ⟨o,aG⟩;cases aG
  ·intro t
   simp only [start]
   by_cases aE:t<vs.length
   ·have bJ:t<aF.length:=by rw [←cv.1];exact aE
    have ax:=List.getElem?_eq_getElem bJ
    have aM:=List.getElem?_eq_getElem aE
    have aS:(aF.map AV.d).getD t .any= .d aF[t]:=by rw [List.getD_eq_getElem?_getD,List.getElem?_map,ax];rfl
    have aV:(vs.toArray++Array.replicate (fn.ntmps-vs.toArray.size) undef).getD t undef=vs[t]:=by
     rw [Array.getD_eq_getD_getElem?,Array.getElem?_append_left (by simpa using aE)]
     simp [aE]
    rw [aS,aV]
    exact .d _ _ (cv.2 t _ _ ax aM)
   ·have aS:(aF.map AV.d).getD t .any= .any:=by rw [List.getD_eq_getElem?_getD,List.getElem?_eq_none (by simp;rw [←cv.1];omega)];rfl
    rw [aS]
    exact .any _
  ·intro k o ai;cases ai
  ·intro k o b ai;cases ai
  ·intro k bg o o' b _ ai;cases ai
 have fE:fn.ntmps≤(vs.toArray++Array.replicate (fn.ntmps-vs.toArray.size) undef).size:=by simp;omega
 refine wp_mono (h m fr _ _ w cA AY fE rfl) ?_
 rintro e cu w' ⟨aP,cd,cr,⟨he,r,d,x,ad,ae,ay,aZ⟩,bG,ch,fi,h0,jg⟩
 obtain ⟨v,br,bo⟩:=Qz (P:=P) a4 ch ad
 have bT:=ay _ _ (PZ ch bo ae)
 have fin:cu.defers=[]∧∃v,(results fn cu.tmps).run P w'= .ok v w'∧∃v1 e9 ff,Ending.returned v= .returned v1∧dQ ff∧m.le e9∧qj e9 fr w'∧cU e9 ff v1:=
  ⟨h0,v,br,v,Den.all cd cr aP.objs w',x,rfl,aZ,Mem.le_trans bG (Den.x6 _ _ _ _),ch.PW,bT⟩
 rcases he with rfl|rfl
 ·exact fin
 ·exact fin
end
end Go.Am
namespace Go.Am
set_option linter.unusedVariables false
def AZ:List AV→Option (List D)
 |[]=>some []
 | .d x::r=>(AZ r).map (x::·)
 |_=>none
def asD:AV→Option D
 | .d x=>some x
 | .agg cs=>(AZ cs).map .agg
 | .aO cs=>(AZ cs).map .aO
 |_=>none
theorem QA:∀{cs:List AV} {aF:List D},AZ cs=some aF→cs=aF.map .d
 |[],aF,h=>by cases h;rfl
 | .d x::r,aF,h=>by
  obtain ⟨l,aq,rfl⟩:=Option.map_eq_some_iff.1 h
  rw [QA aq];rfl
 | .any::_,_,h=>by cases h
 | .agg _::_,_,h=>by cases h
 | .aO _::_,_,h=>by cases h
 | .dP _ _::_,_,h=>by cases h
 | .ptr _ _::_,_,h=>by cases h
 | .fc _ _ _ _::_,_,h=>by cases h
 | .row _::_,_,h=>by cases h
 | .sub _ _ _ _::_,_,h=>by cases h
 | .map _::_,_,h=>by cases h
 | .fn _ _ _::_,_,h=>by cases h
theorem aa1{m:Mem}{ρ:cP}{U:Key→Prop}{x:AV}{a:D}{v:Value}(h:asD x=some a)(ag:bI m ρ U x v):cU m a v:=by
 have part:∀{cs:List AV} {aF:List D} {vs:Array Value},AZ cs=some aF→vs.size=cs.length→(∀(i:Nat) (c:AV) (v:Value),cs[i]?=some c→vs[i]?=some v→bI m ρ U c v)→
   vs.size=aF.length∧∀(i:Nat) (c:D) (v:Value),aF[i]?=some c→vs[i]?=some v→cU m c v:=by
  intro cs aF vs ax aq aj
  have e:=QA ax
  subst e
  refine ⟨by simpa using aq,fun i c v ad ae=>?_⟩
  have:=aj i (.d c) v (by simp [ad]) ae
  cases this with|d _ _ h=>exact h
 unfold asD at h
 split at h
 ·cases h;cases ag with|d _ _ h=>exact h
 ·obtain ⟨aF,ax,rfl⟩:=Option.map_eq_some_iff.1 h
  cases ag with|agg _ vs aq aj=>exact .agg _ _ (part ax aq aj).1 (part ax aq aj).2
 ·obtain ⟨aF,ax,rfl⟩:=Option.map_eq_some_iff.1 h
  cases ag with|aO _ vs aq aj=>exact .aO _ _ (part ax aq aj).1 (part ax aq aj).2
 ·cases h
def AvLe0(bU:Key→Key)(U:Key→Prop)(x y:AV):Prop:=
 match y with
 | .any=>True
 | .d b=>∃a,asD x=some a∧a.le b
 | .dP cs off=>x= .dP cs off∨x= .d (.ref cs off)
 | .ptr k off=>x= .ptr (bU k) off∧U k
 | .fc k cw i off=>x= .fc (bU k) cw i off∧U k
 | .row k=>x= .row (bU k)∧U k
 | .sub k cw i len=>x= .sub (bU k) cw i len∧U k
 | .map k=>x= .map (bU k)∧U k
 |_=>False
def h1(bU:Key→Key)(U:Key→Prop):List AV→List AV→Prop
 |[],[]=>True
 |x::xs,y::cR=>AvLe0 bU U x y∧h1 bU U xs cR
 |_,_=>False
def AvLe(bU:Key→Key)(U:Key→Prop)(x y:AV):Prop:=
 match y with
 | .agg cR=>match x with
  | .agg xs=>h1 bU U xs cR
  | .d (.agg aF)=>h1 bU U (aF.map .d) cR
  |_=>False
 | .aO cR=>match x with
  | .aO xs=>h1 bU U xs cR
  |_=>False
 | .fn f as iq=>match x with
  | .fn iO aa2 aa3=>f=iO∧h1 bU U aa2 as∧h1 bU U aa3 iq
  |_=>False
 |y=>AvLe0 bU U x y
def qm(bU:Key→Key)(U:Key→Prop):List AV→List AV→Prop
 |[],[]=>True
 |x::xs,y::cR=>AvLe bU U x y∧qm bU U xs cR
 |_,_=>False
section
variable{m:Mem}{ρ:cP}{oc U:Key→Prop}{bU:Key→Key}
theorem AvLe0.ok{x y:AV}(h:AvLe0 bU U x y){v:Value}(ag:bI m ρ oc x v):bI m (fun k=>ρ (bU k)) U y v:=by
 unfold AvLe0 at h
 split at h
 ·exact .any _
 ·obtain ⟨a,aB,hle⟩:=h
  exact .d _ _ (hle _ _ (aa1 aB ag))
 ·rcases h with rfl|rfl
  ·cases ag with|dP _ _ b o vs T dH hm xs ad ae=>exact .dP _ _ b o vs T dH hm xs ad ae
  ·cases ag.mD with|ref _ _ b o vs T dH hm xs ad ae=>exact .dP _ _ b o vs T dH hm xs ad ae
 ·obtain ⟨rfl,hu⟩:=h
  cases ag with|ptr _ _ b _ av=>exact .ptr _ _ b hu av
 ·obtain ⟨rfl,hu⟩:=h
  cases ag with|fc _ _ _ _ b o len cap _ av=>exact .fc _ _ _ _ b o len cap hu av
 ·obtain ⟨rfl,hu⟩:=h
  cases ag
  exact .row (ρ:=fun k=>ρ (bU k)) _ hu
 ·obtain ⟨rfl,hu⟩:=h
  cases ag with
  |sub _ _ _ _ b o L cap a _ av hle aB=>exact .sub _ _ _ _ b o L cap a hu av hle aB
  |jE _ _ _ _ av=>exact .jE _ _ _ hu av
 ·obtain ⟨rfl,hu⟩:=h
  cases ag
  exact .map (ρ:=fun k=>ρ (bU k)) _ hu
 ·cases h
theorem h1.ok:∀{xs cR:List AV},h1 bU U xs cR→cR.length=xs.length∧∀(i:Nat) (y:AV),cR[i]?=some y→∃x,xs[i]?=some x∧AvLe0 bU U x y
 |[],[],_=>⟨rfl,by simp⟩
 |x::xs,y::cR,h=>by
  have ih:=h1.ok h.2
  refine ⟨by simp [ih.1],?_⟩
  intro i z bN
  cases i with
  |zero=>simp at bN;subst bN;exact ⟨x,rfl,h.1⟩
  |succ i=>simp at bN;obtain ⟨w,ad,ae⟩:=ih.2 i z bN;exact ⟨w,by simpa using ad,ae⟩
 |[],y::cR,h=>h.elim
 |x::xs,[],h=>h.elim
theorem h1.cells{xs cR:List AV}{vs:Array Value}(h:h1 bU U xs cR)(ag:km m ρ oc xs vs):km m (fun k=>ρ (bU k)) U cR vs:=by
 obtain ⟨ad,ae⟩:=h.ok
 refine ⟨by rw [ag.1,ad],?_⟩
 intro i y v aN aM
 obtain ⟨x,ay,aZ⟩:=ae i y aN
 exact aZ.ok (ag.2 i x v ay aM)
theorem AvLe.ok{x y:AV}(h:AvLe bU U x y){v:Value}(ag:bI m ρ oc x v):bI m (fun k=>ρ (bU k)) U y v:=by
 unfold AvLe at h
 split at h
 ·rename_i cR
  split at h
  ·rename_i xs
   obtain ⟨vs,rfl,aj⟩:=ag.Pm
   have:=h1.cells h aj
   exact .agg _ _ this.1 this.2
  ·rename_i aF
   obtain ⟨vs,rfl,aq,aj⟩:=ag.Pl
   have ar:km m ρ oc (aF.map .d) vs:=⟨by simpa using aq,by
    intro i c v c9 aM
    simp only [List.getElem?_map,Option.map_eq_some_iff] at c9
    obtain ⟨z,bN,rfl⟩:=c9
    exact .d _ _ (aj i z v bN aM)⟩
   have:=h1.cells h ar
   exact .agg _ _ this.1 this.2
  ·cases h
 ·split at h
  ·obtain ⟨vs,rfl,aj⟩:=ag.Pn
   have:=h1.cells h aj
   exact .aO _ _ this.1 this.2
  ·cases h
 ·split at h
  ·obtain ⟨rfl,ad,ae⟩:=h
   cases ag with|fn _ _ _ vs ws aq dV g oT=>
   have a:=h1.cells (U:=U) ad ⟨aq,g⟩
   have b:=h1.cells (U:=U) ae ⟨dV,oT⟩
   exact .fn _ _ _ vs ws a.1 b.1 a.2 b.2
  ·cases h
 ·exact h.ok ag
end
theorem qm.ok{bU:Key→Key}{U:Key→Prop}:∀{xs cR:List AV},qm bU U xs cR→cR.length=xs.length∧∀(i:Nat) (y:AV),cR[i]?=some y→∃x,xs[i]?=some x∧AvLe bU U x y
 |[],[],_=>⟨rfl,by simp⟩
 |x::xs,y::cR,h=>by
  have ih:=qm.ok h.2
  refine ⟨by simp [ih.1],?_⟩
  intro i z bN
  cases i with
  |zero=>simp at bN;subst bN;exact ⟨x,rfl,h.1⟩
  |succ i=>simpa using ih.2 i z (by simpa using bN)
 |[],y::cR,h=>h.elim
 |x::xs,[],h=>h.elim
theorem qm.cells{m:Mem}{ρ:cP}{oc U:Key→Prop}{bU:Key→Key}{xs cR:List AV}{vs:Array Value}(h:qm bU U xs cR)(ag:km m ρ oc xs vs):km m (fun k=>ρ (bU k)) U cR vs:=by
 obtain ⟨ad,ae⟩:=h.ok
 refine ⟨by rw [ag.1,ad],?_⟩
 intro i y v aN aM
 obtain ⟨x,ay,aZ⟩:=ae i y aN
 exact aZ.ok (ag.2 i x v ay aM)
def Ke(es cQ:List (List D)):Prop:=es=cQ∨(es.length=cQ.length∧∀(i:Nat) (x y:List D),es[i]?=some x→cQ[i]?=some y→x.length=y.length∧y.all D.one=true∧∀(j:Nat) (a b:D),x[j]?=some a→y[j]?=some b→a.le b)
def ObLe(bU:Key→Key)(U:Key→Prop)(x y:cq):Prop:=
 match y with
 | .dead=>True
 | .box cR=>∃xs,x= .box xs∧qm bU U xs cR
 | .row k cQ=>∃es,x= .row k es∧Ke es cQ
 | .map es=>x= .map es
theorem Ke.ok{m:Mem}{ρ cr:cP}{U lh:Key→Prop}{k:Nat}{es cQ:List (List D)}(h:Ke es cQ){v:Value}{w:World}(ag:il m ρ U v w (.row k es)):il m cr lh v w (.row k cQ):=by
 rcases h with rfl|⟨aq,h⟩
 ·exact ag
 ·rcases ag with⟨aS,rfl⟩|⟨b,o,cap,vs,T,aS,aV,bz,cB,dx,e3⟩
  ·exact .inl ⟨aS,List.eq_nil_of_length_eq_zero (by rw [←aq];rfl)⟩
  ·have key:∀(i:Nat) (y:List D),cQ[i]?=some y→∃x,es[i]?=some x∧x.length=y.length∧y.all D.one=true∧∀(j:Nat) (a b:D),x[j]?=some a→y[j]?=some b→a.le b:=by
    intro i y aN
    have af:i<es.length:=by rw [aq];exact (List.getElem?_eq_some_iff.1 aN).1
    exact ⟨_,List.getElem?_eq_getElem af,h i _ y (List.getElem?_eq_getElem af) aN⟩
   refine .inr ⟨b,o,cap,vs,T,by rw [←aq];exact aS,aV,by omega,cB,?_,?_⟩
   ·intro y aN
    obtain ⟨i,af⟩:=List.mem_iff_getElem?.1 aN
    obtain ⟨x,ad,ae,ay,_⟩:=key i y af
    exact ⟨by rw [←ae];exact (dx x (List.mem_of_getElem? ad)).1,ay⟩
   ·intro i y j c af aH
    obtain ⟨x,ad,ae,_,ay⟩:=key i y af
    have QB:j<x.length:=by rw [ae];exact (List.getElem?_eq_some_iff.1 aH).1
    obtain ⟨z,a0,a9⟩:=e3 i x j _ ad (List.getElem?_eq_getElem QB)
    exact ⟨z,a0,ay j _ c (List.getElem?_eq_getElem QB) aH _ _ a9⟩
def lookS:List (Nat×AV)→Nat→AV
 |[],_=> .any
 |(j,v)::r,t=>if t=j then v else lookS r t
def lookO:List (Key×cq)→Key→Option cq
 |[],_=>none
 |(j,o)::r,k=>if k=j then some o else lookO r k
def QC(ls:List (Nat×AV))(lo:List (Key×cq)):St:=⟨lookS ls,lookO lo⟩
def yk(bU:Key→Key)(U:Key→Prop)(σ:St):List (Nat×AV)→Prop
 |[]=>True
 |(t,v)::r=>AvLe bU U (σ.aC t) v∧yk bU U σ r
def u3(bU:Key→Key)(U:Key→Prop)(σ:St):List (Key×cq)→Prop
 |[]=>True
 |(k,o)::r=>(∃o',σ.objs (bU k)=some o'∧ObLe bU U o' o)∧u3 bU U σ r
theorem yk.ok{bU:Key→Key}{U:Key→Prop}{σ:St}:∀{ls:List (Nat×AV)},yk bU U σ ls→∀t,AvLe bU U (σ.aC t) (lookS ls t)
 |[],_,t=>trivial
 |(j,v)::r,h,t=>by
  unfold lookS
  split
  ·rename_i e;subst e;exact h.1
  ·exact yk.ok h.2 t
theorem u3.ok{bU:Key→Key}{U:Key→Prop}{σ:St}:∀{lo:List (Key×cq)},u3 bU U σ lo→∀k o,lookO lo k=some o→∃o',σ.objs (bU k)=some o'∧ObLe bU U o' o
 |[],_,k,o,h=>by cases h
 |(j,x)::r,h,k,o,ai=>by
  unfold lookO at ai
  split at ai
  ·rename_i e;subst e;cases ai;exact h.1
  ·exact u3.ok h.2 k o ai
def e4:List (Key×Key)→Key→Key
 |[],k=>k
 |(a,b)::r,k=>if k=a then b else e4 r k
def kt(lo:List (Key×cq)):List Key:=lo.map (·.1)
def renOk(bU:Key→Key):List Key→Bool
 |[]=>true
 |k::r=>r.all (fun j=>k==j||!(bU k==bU j))&&renOk bU r
theorem FO{bU:Key→Key}:∀{l:List Key},renOk bU l=true→∀k j,k∈l→j∈l→bU k=bU j→k=j
 |[],_,k,j,h,_,_=>by cases h
 |x::r,h,k,j,ai,aH,he=>by
  simp only [renOk,Bool.and_eq_true,List.all_eq_true] at h
  rcases List.mem_cons.1 ai with rfl|eR
  ·rcases List.mem_cons.1 aH with rfl|qc
   ·rfl
   ·have:=h.1 j qc
    simp at this
    rcases this with ad|ad
    ·exact ad
    ·exact absurd he ad
  ·rcases List.mem_cons.1 aH with rfl|qc
   ·have:=h.1 k eR
    simp at this
    rcases this with ad|ad
    ·exact ad.symm
    ·exact absurd he.symm ad
   ·exact FO h.2 k j eR qc he
theorem te:∀{lo:List (Key×cq)} {k:Key} {o:cq},lookO lo k=some o→k∈kt lo
 |[],k,o,h=>by cases h
 |(j,x)::r,k,o,h=>by
  unfold lookO at h
  split at h
  ·rename_i e;subst e;simp [kt]
  ·have:=te h
   simp only [kt,List.map_cons,List.mem_cons] at this⊢
   exact .inr this
theorem aa4{σ:St}{ls:List (Nat×AV)}{lo:List (Key×cq)}(l:List (Key×Key))(av:renOk (e4 l) (kt lo)=true)
  (az:yk (e4 l) (fun k=>∃o,lookO lo k=some o) σ ls) (aG:u3 (e4 l) (fun k=>∃o,lookO lo k=some o) σ lo)
  (ai:∀k,10000≤k→dS (σ.objs k)→dS (lookO lo k)∧e4 l k=k):fX σ (QC ls lo):=by
 intro m fr ρ a w h
 have jd:∀{o o':cq},ObLe (e4 l) (fun k=>∃o,lookO lo k=some o) o' o→o.owns=true→o'.owns=true:=by
  intro o o' hle aG
  cases o with
  |dead=>cases aG
  |box=>obtain ⟨xs,rfl,_⟩:=hle;rfl
  |row=>obtain ⟨es,rfl,_⟩:=hle;rfl
  |map=>cases hle;rfl
 refine ⟨m,fun k=>ρ (e4 l k),Mem.le_refl m,⟨h.mem,h.frame,h.apart,?_,?_,?_,?_,?_⟩,fun k eR ak=>⟨(ai k eR ak).1,by show ρ (e4 l k)=ρ k;rw [(ai k eR ak).2]⟩⟩
 ·rintro k ⟨o,ku⟩
  obtain ⟨o',ad,_⟩:=aG.ok k o ku
  exact h.one _ ⟨o',ad⟩
 ·intro t
  exact (az.ok t).ok (h.aC t)
 ·intro k o ku
  obtain ⟨o',ad,ae⟩:=aG.ok k o ku
  have ay:=h.objs _ _ ad
  cases o with
  |dead=>trivial
  |box cR=>
   obtain ⟨xs,rfl,hle⟩:=ae
   obtain ⟨b,vs,T,aS,aV,bz,cB⟩:=ay
   have:=qm.cells hle ⟨bz,cB⟩
   exact ⟨b,vs,T,aS,aV,this.1,this.2⟩
  |row cw cQ=>
   obtain ⟨es,rfl,hle⟩:=ae
   exact hle.ok ay
  |map es=>
   cases ae
   exact ay
 ·intro k o b ku FP ak
  obtain ⟨o',ad,ae⟩:=aG.ok k o ku
  exact h.own _ o' b ad (jd ae FP) ak
 ·intro k bg o o' b ca ku A0 Kf Kg ak
  obtain ⟨x,ad,ae⟩:=aG.ok k o ku
  obtain ⟨im,dw,fW⟩:=aG.ok bg o' A0
  exact h.sep (e4 l k) (e4 l bg) x im b (fun e=>ca (FO av k bg (te ku) (te A0) e)) ad dw (jd ae Kf) (jd fW Kg) ak
end Go.Am
namespace Go.Am
set_option linter.unusedVariables false
def eqFs(P:Program):Nat→List Field→Option (List TypeDesc)
 |_,[]=>some []
 |off,f::cQ=>if f.name≠ "_" ∧f.offset=off then(match P.underlying f.type with
  |some .bool=>(eqFs P (off+1) cQ).map (.bool::·)
  |some (.int k)=>(eqFs P (off+1) cQ).map (.int k::·)
  |some .string=>(eqFs P (off+1) cQ).map (.string::·)
  |_=>none) else none
theorem FQ{P:Program}:∀{cQ:List Field} {off:Nat} {l:List TypeDesc},eqFs P off cQ=some l→E0 P off cQ l
 |[],_,l,h=>by cases h;trivial
 |f::cQ,off,l,h=>by
  unfold eqFs at h
  split at h
  case isFalse=>cases h
  rename_i ad
  split at h
  ·rename_i hu
   obtain ⟨r,av,rfl⟩:=Option.map_eq_some_iff.1 h
   exact ⟨ad.1,ad.2,hu,rfl,FQ av⟩
  ·rename_i hu
   obtain ⟨r,av,rfl⟩:=Option.map_eq_some_iff.1 h
   exact ⟨ad.1,ad.2,hu,rfl,FQ av⟩
  ·rename_i hu
   obtain ⟨r,av,rfl⟩:=Option.map_eq_some_iff.1 h
   exact ⟨ad.1,ad.2,hu,rfl,FQ av⟩
  ·cases h
def eqsOf(P:Program)(t:TypeId):Option (List TypeDesc):=match P.underlying t with
 |some (.struct cQ)=>match eqFs P 0 cQ.toList with
  |some l=>if P.stoodInHeld t=false∧P.eqGuardType P.depth t=false then some l else none
  |none=>none
 |_=>none
theorem aa5{P:Program}{t:TypeId}{l:List TypeDesc}(h:eqsOf P t=some l):O5 P t l:=by
 unfold eqsOf at h
 split at h
 case h_2=>cases h
 rename_i cQ hu
 have a6:P.fieldsOf t=cQ:=by simp [Program.fieldsOf,hu]
 split at h
 case h_2=>cases h
 rename_i oO aq
 split at h
 case isFalse=>cases h
 rename_i aj
 cases h
 exact ⟨by rw [a6];exact hu,aj.1,aj.2,by rw [a6];exact FQ aq⟩
def infoOf(P:Program)(t:TypeId):Option hB:=
 match P.underlying t,P.info? t with
 |some d,some i=>match i.zero with
  |some z=>if z.cells.size=i.size then some ⟨d,i.size,i.bytes,z⟩ else none
  |none=>none
 |_,_=>none
def methOf(P:Program)(t:TypeId)(name:String):Option FuncId:=match P.info? t,P.underlying t with
 |some i,some d=>match d with
  | .pointer _=>none
  |_=>match i.methods.find? (fun m=>m.name==name) with
   |some m=>match m.path.toList,m.func with
    |[],some (f,false)=>some f
    |_,_=>none
   |none=>none
 |_,_=>none
theorem aa6{P:Program}{t:TypeId}{name:String}{f:FuncId}(h:methOf P t name=some f):E1 P t name f:=by
 unfold methOf at h
 split at h
 case h_2=>cases h
 rename_i i d ad ae
 split at h
 case h_1=>cases h
 rename_i aY
 split at h
 case h_2=>cases h
 rename_i m hm
 split at h
 case h_2=>cases h
 rename_i g ay aZ
 cases h
 exact ⟨i,m,d,ad,hm,ay,aZ,ae,fun e he=>aY e he⟩
def eN(P:Program):bW:=⟨infoOf P,eqsOf P,fun _=>false,methOf P,[]⟩
def bW.FR(T:bW)(l:List TypeId):bW:=⟨T.Jm,T.eqs,T.born,T.qa,l⟩
theorem dk.FR{P:Program}{T:bW}(h:dk P T)(l:List TypeId):dk P (T.FR l):=⟨h.ty,h.E2,h.eqs,h.Jn⟩
def bW.qn(T:bW)(l:List Nat):bW:=⟨T.Jm,T.eqs,fun k=>l.contains k,T.qa,T.O4⟩
theorem dk.qn{P:Program}{T:bW}(h:dk P T)(l:List Nat):dk P (T.qn l):=⟨h.ty,h.E2,h.eqs,h.Jn⟩
theorem tok(P:Program):dk P (eN P):=by
 constructor
 ·intro t i h
  change infoOf P t=some i at h
  unfold infoOf at h
  split at h
  case h_2=>cases h
  rename_i d info ad ae
  split at h
  case h_2=>cases h
  rename_i z bN
  split at h
  case isFalse=>cases h
  cases h
  exact ⟨ad,info,ae,rfl,rfl,bN⟩
 ·intro t i h
  change infoOf P t=some i at h
  unfold infoOf at h
  split at h
  case h_2=>cases h
  rename_i d info ad ae
  split at h
  case h_2=>cases h
  rename_i z bN
  split at h
  case isFalse=>cases h
  rename_i az
  cases h
  exact az
 ·intro t l h
  exact aa5 h
 ·intro t name f h
  exact aa6 h
def J(n:Int):D:= .val (.int .i64 n)
def au(b:Bool):D:= .val (.bool b)
def aJ(s:ByteArray):D:= .val (.string s)
def ck(l:List Int):D:= .aD 1 (l.map fun n=>[J n])
def c1(l:List ByteArray):D:= .aD 1 (l.map fun s=>[aJ s])
end Go.Am
