/- Calls, regions in any order, loops: their rules over such values. No condition. -/
import Derived.Test.YtknmgdnhongcnaaGreatDoorEngA
import Derived.Still
import Derived.Scope
set_option linter.all false
set_option linter.unnecessarySimpa false
namespace Go.Am
set_option linter.unusedVariables false
def St.put(σ:St)(dst:Option Tmp)(r:AV):St:=match dst with
 |some d=>⟨b0 σ.aC d r,σ.objs⟩
 |none=>σ
def stepA(T:bY)(G:cT)(σ:St)(o:Oper):Option St:=
 match pureOp T (evA G σ.aC) o.op with
 |some r=>some (σ.put o.dst r)
 |none=>match memOp T (evA G σ.aC) σ.objs o.op with
  |some r=>some (σ.put o.dst r)
  |none=>match fF T (evA G σ.aC) σ.objs (o.dst.getD 9999) o.op with
   |some (r,b3)=>some (St.put ⟨σ.aC,updO σ.objs b3⟩ o.dst r)
   |none=>none
structure qo(m:Mem)(fr:eE)(w:World):Prop where
 mem:∀b o,m b=some o→w.heap[b]?=some o
 frame:Pt fr w
 apart:∀b,m b≠none→fr b=none
theorem Den.ok{m:Mem}{fr:eE}{ρ:cK}{σ:St}{a:Act}{w:World}(h:Den m fr ρ σ a w):qo m fr w:=⟨h.mem,h.frame,h.apart⟩
def u2(m:Mem)(aD:List D)(vs:List Value):Prop:=vs.length=aD.length∧∀(i:Nat) (d:D) (v:Value),aD[i]?=some d→vs[i]?=some v→cS m d v
def u3(P:Program)(f:FuncId):Prop:=∃fn,P.funcs[f]?=some fn∧(fn.name== "runtime.NumGoroutine")=false∧fn.body.isNone=false
structure dq(P:Program)(G:cT)(f:FuncId)(aD:List D)(dX:D→Prop):Prop where
 fn:u3 P f
 run:∀m fr w vs,iz G m→qo m fr w→u2 m aD vs→Calls P f vs.toArray w fun e w'=>∃v ca r,e= .returned v∧dX r∧m.le ca∧qo ca fr w'∧cS ca r v
theorem dq.mono{P:Program}{G:cT}{f:FuncId}{aD:List D}{dX Qk:D→Prop}(h:dq P G f aD dX)(au:∀r,dX r→Qk r):dq P G f aD Qk:=
 ⟨h.fn,fun m fr w vs cy cU cu=>(h.run m fr w vs cy cU cu).mono fun e w' ⟨v,ca,r,ad,ae,ax⟩=>⟨v,ca,r,ad,au r ae,ax⟩⟩
def oU:List D→List D→Prop
 |[],[]=>True
 |x::xs,y::cN=>x.le y∧oU xs cN
 |_,_=>False
theorem oU.refl:∀l:List D,oU l l
 |[]=>trivial
 |x::l=>⟨x.le_refl,oU.refl l⟩
theorem oU.ok{m:Mem}:∀{xs cN:List D} {vs:List Value},oU xs cN→u2 m xs vs→u2 m cN vs
 |[],[],vs,_,h=>h
 |x::xs,y::cN,[],_,h=>by have:=h.1;simp at this
 |x::xs,y::cN,v::vs,an,h=>by
  have ih:=oU.ok (m:=m) (vs:=vs) an.2 ⟨by simpa using h.1,fun i d u ay hu=>h.2 (i+1) d u (by simpa using ay) (by simpa using hu)⟩
  refine ⟨by simpa using ih.1,?_⟩
  intro i d u ay hu
  cases i with
  |zero=>simp at ay hu;subst ay;subst hu;exact an.1 m v (h.2 0 x v rfl rfl)
  |succ i=>exact ih.2 i d u (by simpa using ay) (by simpa using hu)
 |[],y::cN,vs,h,_=>h.elim
 |x::xs,[],vs,h,_=>h.elim
def D.flat:D→Bool
 | .val _=>true
 | .agg cs=>cs.all fun c=>match c with
  | .val _=>true
  |_=>false
 | .aL cs=>cs.all fun c=>match c with
  | .val _=>true
  | .agg cs=>cs.all fun c=>match c with
   | .val _=>true
   |_=>false
  |_=>false
 |_=>false
theorem aam{m ca:Mem}{c:D}{v:Value}(h:(match c with| .val _=>true|_=>false)=true)(ay:cS m c v):cS ca c v:=by
 cases c<;>first|(cases ay;exact .val _)|cases h
theorem flat_agg{m ca:Mem}{cs:List D}{v:Value}(h:(cs.all fun c=>match c with| .val _=>true|_=>false)=true)(ay:cS m (.agg cs) v):cS ca (.agg cs) v:=by
 cases ay with
 |agg _ vs an bp=>exact .agg _ _ an fun i c u aj hu=>aam (List.all_eq_true.1 h c (List.mem_of_getElem? aj)) (bp i c u aj hu)
theorem D.aan{m ca:Mem}{x:D}{v:Value}(h:x.flat=true)(ay:cS m x v):cS ca x v:=by
 cases x with
 |val=>cases ay;exact .val _
 |agg cs=>exact flat_agg h ay
 |aL cs=>
  cases ay with
  |aL _ vs an bp=>
   refine .aL _ _ an fun i c u aj hu=>?_
   have ad:=List.all_eq_true.1 h c (List.mem_of_getElem? aj)
   have ae:=bp i c u aj hu
   cases c with
   |val=>cases ae;exact .val _
   |agg cs=>exact flat_agg ad ae
   |aL=>cases ad
   |aE=>cases ad
   |di=>cases ad
   |mp=>cases ad
   |ref=>cases ad
   |fn=>cases ad
 |aE=>cases h
 |di=>cases h
 |mp=>cases h
 |ref=>cases h
 |fn=>cases h
def toDa(objs:b6):AV→Option D
 | .d x=>some x
 | .row key=>match objs key with
  |some (.row k es)=>some (.aE k es)
  |_=>none
 | .sub key k i len=>match objs key with
  |some (.row bg es)=>if k=bg∧i+len≤es.length then some (.aE k ((es.drop i).take len)) else none
  |_=>none
 | .map key=>match objs key with
  |some (.map es)=>some (.mp es)
  |_=>none
 |_=>none
def allSome{α:Type}:List (Option α)→Option (List α)
 |[]=>some []
 |some x::r=>match allSome r with
  |some l=>some (x::l)
  |none=>none
 |none::_=>none
theorem oV{α:Type}:∀{l:List (Option α)} {r:List α},allSome l=some r→r.length=l.length∧∀(i:Nat) (x:α),r[i]?=some x→l[i]?=some (some x)
 |[],r,h=>by simp [allSome] at h;subst h;simp
 |none::l,r,h=>by simp [allSome] at h
 |some x::l,r,h=>by
  simp only [allSome] at h
  split at h
  case h_2=>cases h
  rename_i oS dS
  cases h
  have ih:=oV dS
  refine ⟨by simp [ih.1],?_⟩
  intro i y aT
  cases i with
  |zero=>simpa using aT
  |succ i=>exact ih.2 i y (by simpa using aT)
def toD0(objs:b6):AV→Option D
 | .ptr key off=>match objs key with
  |some (.box cells)=>match allSome (cells.map (toDa objs)) with
   |some cs=>some (.ref cs off)
   |none=>none
  |_=>none
 | .dO cs off=>some (.ref cs off)
 |x=>toDa objs x
def toD1(objs:b6):AV→Option D
 | .agg cs=>match allSome (cs.map (toD0 objs)) with
  |some aD=>some (.agg aD)
  |none=>none
 | .fn f first cap=>match allSome (first.map (toD0 objs)),allSome (cap.map (toD0 objs)) with
  |some as,some h7=>some (.fn f as h7)
  |_,_=>none
 |x=>toD0 objs x
def toD(objs:b6):AV→Option D
 | .aL cs=>match allSome (cs.map (toD1 objs)) with
  |some aD=>some (.aL aD)
  |none=>none
 |x=>toD1 objs x
noncomputable def Den.all(m:Mem)(ρ:cK)(objs:b6)(w:World):Mem:=fun b=>
 match m b with
 |some o=>some o
 |none=>open Classical in if∃k o,objs k=some o∧o.owns=true∧blockOf (ρ k)=some b then w.heap[b]? else none
section
variable{P:Program}{T:bY}{G:cT}{m:Mem}{fr:eE}{ρ:cK}{σ:St}{a:Act}{w:World}
theorem Den.yk(m:Mem)(ρ:cK)(objs:b6)(w:World):m.le (Den.all m ρ objs w):=by
 intro b o h;simp [Den.all,h]
theorem Den.FB(h:Den m fr ρ σ a w){k:Key}{o:cl}{b:Nat}(ai:σ.objs k=some o)(az:o.owns=true)(ak:blockOf (ρ k)=some b):Den.all m ρ σ.objs w b=w.heap[b]?:=by
 have:=(h.own k o b ai az ak).1
 simp only [Den.all,this]
 rw [if_pos ⟨k,o,ai,az,ak⟩]
theorem Den.aao(h:Den m fr ρ σ a w):∀b o,Den.all m ρ σ.objs w b=some o→w.heap[b]?=some o:=by
 intro b o ak
 unfold Den.all at ak
 cases hm:m b with
 |some x=>simp only [hm] at ak;cases ak;exact h.mem b _ hm
 |none=>
  simp only [hm] at ak
  split at ak
  ·exact ak
  ·cases ak
theorem Den.Ql(h:Den m fr ρ σ a w):qo (Den.all m ρ σ.objs w) fr w:=by
 refine ⟨h.aao,h.frame,?_⟩
 intro b ak
 unfold Den.all at ak
 cases hm:m b with
 |some x=>exact h.apart b (by rw [hm];simp)
 |none=>
  simp only [hm] at ak
  split at ak
  ·rename_i aj
   obtain ⟨k,o,ad,ae,ax⟩:=aj
   exact (h.own k o b ad ae ax).2
  ·exact absurd rfl ak
theorem Qm(h:Den m fr ρ σ a w){x:AV}{v:Value}{d:D}(ah:bK m ρ σ.used x v)(ay:toDa σ.objs x=some d):cS (Den.all m ρ σ.objs w) d v:=by
 have hle:=Den.yk m ρ σ.objs w
 have row:∀key k es v,σ.objs key=some (.row k es)→v=ρ key→cS (Den.all m ρ σ.objs w) (.aE k es) v:=by
  rintro key k es v ai rfl
  rcases h.objs _ _ ai with⟨aQ,rfl⟩|⟨b,o,cap,vs,dC,aQ,aW,bA,cz,dD,eZ⟩
  ·rw [aQ];exact .k7 _ _ _
  ·have ak:=h.FB ai rfl (by rw [aQ];rfl)
   obtain ⟨f1,f2⟩:=PT (m:=m) dD eZ
   rw [aQ]
   refine .aE k es b o cap vs dC (0,0) (by rw [ak];exact aW) dD bA (fun i j=>(vs[o+i*k+j]?).getD undef) ?_ ?_
   ·intro i e j c af aF
    obtain ⟨x,a2,bb⟩:=eZ i e j c af aF
    rw [a2];rfl
   ·intro i e j c af aF
    obtain ⟨x,a2,bb⟩:=eZ i e j c af aF
    simp only [a2,Option.getD_some]
    exact bb.mono hle
 unfold toDa at ay
 split at ay
 ·cases ay
  exact ah.mu.mono hle
 ·rename_i key
  split at ay
  case h_2=>cases ay
  rename_i k es ai
  cases ay
  cases ah
  exact row key k es _ ai rfl
 ·rename_i key k i len
  split at ay
  case h_2=>cases ay
  rename_i bg es ai
  split at ay
  case isFalse=>cases ay
  rename_i aj
  obtain ⟨rfl,JU⟩:=aj
  cases ay
  cases ah with
  |jv _ _ _ hu au=>rw [List.take_zero];exact .k7 _ _ _
  |sub _ _ _ _ b o L cap hN hu au uS aA=>
  have hlen:((es.drop i).take len).length=len:=by simp;omega
  rcases Nat.eq_zero_or_pos len with aq|hX
  ·subst aq;rw [List.take_zero];exact .k7 _ _ _
  ·have nd:=row key k es _ ai rfl
   rw [au] at nd
   cases nd with
   |k7=>simp at JU;omega
   |aE _ _ _ _ _ vs dC dI hm c1 aj xs ad ae=>
    have:=cS.aE (m:=Den.all m ρ σ.objs w) k ((es.drop i).take len) b (o+i*k) (cap-i) vs dC dI hm (fun e he=>c1 e (List.mem_of_mem_drop (List.mem_of_mem_take he))) (by omega) (fun p j=>xs (i+p) j)
     (fun p el j c eu aj=>by
      rw [List.getElem?_take] at eu
      split at eu
      case isFalse=>cases eu
      rw [List.getElem?_drop] at eu
      have:=ad (i+p) el j c eu aj
      rw [←this]
      congr 1
      rw [Nat.add_mul];omega)
     (fun p el j c eu aj=>by
      rw [List.getElem?_take] at eu
      split at eu
      case isFalse=>cases eu
      rw [List.getElem?_drop] at eu
      exact ae (i+p) el j c eu aj)
    rw [hlen] at this
    rw [aA.1 (by omega)]
    exact this
 ·rename_i key
  split at ay
  case h_2=>cases ay
  rename_i es ai
  cases ay
  cases ah
  obtain ⟨r,cQ,clock,aQ,aW,bA,cz,dD⟩:=h.objs _ _ ai
  have ak:=h.FB ai rfl (by rw [aQ];rfl)
  rw [aQ]
  exact .mp es r cQ clock (by rw [ak];exact aW) bA cz (fun i e x he ah=>(dD i e x he ah).mono hle)
 ·cases ay
theorem FC(h:Den m fr ρ σ a w){x:AV}{v:Value}{d:D}(ah:bK m ρ σ.used x v)(ay:toD0 σ.objs x=some d):cS (Den.all m ρ σ.objs w) d v:=by
 have hle:=Den.yk m ρ σ.objs w
 unfold toD0 at ay
 split at ay
 ·rename_i key off
  split at ay
  case h_2=>cases ay
  rename_i cells ai
  split at ay
  case h_2=>cases ay
  rename_i cs gC
  cases ay
  obtain ⟨b,vs,dC,aQ,aW,bA,cz⟩:=h.objs _ _ ai
  have ak:=h.FB ai rfl (by rw [aQ];rfl)
  obtain ⟨kK,kL⟩:=oV gC
  cases ah with|ptr _ _ b' hu au=>
  rw [aQ] at au
  cases au
  have key:∀(j:Nat) (c:D),cs[j]?=some c→∃u,vs[j]?=some u∧cS (Den.all m ρ σ.objs w) c u:=by
   intro j c aj
   have ad:=kL j c aj
   simp only [List.getElem?_map,Option.map_eq_some_iff] at ad
   obtain ⟨y,aT,nc⟩:=ad
   have aF:j<vs.size:=by rw [bA];exact (List.getElem?_eq_some_iff.1 aT).1
   exact ⟨_,Array.getElem?_eq_getElem aF,Qm h (cz j y _ aT (Array.getElem?_eq_getElem aF)) nc⟩
  have:=cS.ref (m:=Den.all m ρ σ.objs w) cs off b 0 vs dC (0,0) (by rw [ak];exact aW) (fun j=>(vs[j]?).getD undef)
   (fun j c aj=>by obtain ⟨u,ad,_⟩:=key j c aj;simp [ad]) (fun j c aj=>by obtain ⟨u,ad,ae⟩:=key j c aj;simp [ad];exact ae)
  simpa using this
 ·cases ay
  cases ah with|dO _ _ b o vs T dI hm xs ad ae=>exact .ref _ _ b o vs T dI (hle _ _ hm) xs ad (fun j c aj=>(ae j c aj).mono hle)
 ·exact Qm h ah ay
theorem Qn(h:Den m fr ρ σ a w){x:AV}{v:Value}{d:D}(ah:bK m ρ σ.used x v)(ay:toD1 σ.objs x=some d):cS (Den.all m ρ σ.objs w) d v:=by
 unfold toD1 at ay
 split at ay
 ·rename_i cs
  split at ay
  case h_2=>cases ay
  rename_i aD ec
  cases ay
  obtain ⟨kK,kL⟩:=oV ec
  cases ah with|agg _ vs an bp=>
  refine .agg _ _ (by rw [an,kK];simp) ?_
  intro i c u aj hu
  have ad:=kL i c aj
  simp only [List.getElem?_map,Option.map_eq_some_iff] at ad
  obtain ⟨y,aT,nc⟩:=ad
  exact FC h (bp i y u aT hu) nc
 ·rename_i f first cap
  split at ay
  case h_2=>cases ay
  rename_i as h7 has AX
  cases ay
  obtain ⟨kK,kL⟩:=oV has
  obtain ⟨cb,dx⟩:=oV AX
  cases ah with|fn _ _ _ vs ws an dS bp u4=>
  refine .fn _ _ _ vs ws (by rw [an,kK];simp) (by rw [dS,cb];simp) ?_ ?_
  ·intro i c u aj hu
   have ad:=kL i c aj
   simp only [List.getElem?_map,Option.map_eq_some_iff] at ad
   obtain ⟨y,aT,nc⟩:=ad
   exact FC h (bp i y u aT hu) nc
  ·intro i c u aj hu
   have ad:=dx i c aj
   simp only [List.getElem?_map,Option.map_eq_some_iff] at ad
   obtain ⟨y,aT,nc⟩:=ad
   exact FC h (u4 i y u aT hu) nc
 ·exact FC h ah ay
theorem Qo(h:Den m fr ρ σ a w){x:AV}{v:Value}{d:D}(ah:bK m ρ σ.used x v)(ay:toD σ.objs x=some d):cS (Den.all m ρ σ.objs w) d v:=by
 unfold toD at ay
 split at ay
 ·rename_i cs
  split at ay
  case h_2=>cases ay
  rename_i aD ec
  cases ay
  obtain ⟨kK,kL⟩:=oV ec
  cases ah with|aL _ vs an bp=>
  refine .aL _ _ (by rw [an,kK];simp) ?_
  intro i c u aj hu
  have ad:=kL i c aj
  simp only [List.getElem?_map,Option.map_eq_some_iff] at ad
  obtain ⟨y,aT,nc⟩:=ad
  exact Qn h (bp i y u aT hu) nc
 ·exact Qn h ah ay
theorem aap(h:Den m fr ρ σ a w){xs:List AV}{vs:List Value}{aD:List D}(an:vs.length=xs.length)(ah:∀(i:Nat) (x:AV) (v:Value),xs[i]?=some x→vs[i]?=some v→bK m ρ σ.used x v)(ay:allSome (xs.map (toD σ.objs))=some aD):
  u2 (Den.all m ρ σ.objs w) aD vs:=by
 obtain ⟨kK,kL⟩:=oV ay
 refine ⟨by rw [an,kK];simp,?_⟩
 intro i d v ad ae
 have ax:=kL i d ad
 simp only [List.getElem?_map,Option.map_eq_some_iff] at ax
 obtain ⟨y,aT,nc⟩:=ax
 exact Qo h (ah i y v aT ae) nc
theorem Den.aaq(h:Den m fr ρ σ a w){w':World}{ca:Mem}(hle:(Den.all m ρ σ.objs w).le ca)(cU:qo ca fr w'):Den m fr ρ σ a w':=by
 refine ⟨fun b o ak=>cU.mem b o (hle b o (Den.yk m ρ σ.objs w b o ak)),cU.frame,h.apart,h.one,h.aC,?_,h.own,h.sep⟩
 intro k o ai
 refine (h.objs k o ai).mono (Mem.le_refl m) (fun _ hu=>⟨hu,rfl⟩) (fun b az ak=>?_)
 have ad:=h.FB ai az ak
 have ae:b<w.heap.size:=(h.objs k o ai).rB az ak
 have ax:=Array.getElem?_eq_getElem ae
 rw [ax] at ad⊢
 exact cU.mem b _ (hle b _ ad)
noncomputable def Den.hold(fr:eE)(ρ:cK)(objs:b6)(w:World):eE:=⟨Den.all fr.at_ ρ objs w,fr.os,fr.out,fr.low⟩
theorem Den.Qp(h:Den m fr ρ σ a w){k:Key}{o:cl}{b:Nat}(ai:σ.objs k=some o)(az:o.owns=true)(ak:blockOf (ρ k)=some b):Den.hold fr ρ σ.objs w b=w.heap[b]?:=by
 have:=(h.own k o b ai az ak).2
 simp only [Den.hold,Den.all,this]
 rw [if_pos ⟨k,o,ai,az,ak⟩]
theorem Den.Qq(h:Den m fr ρ σ a w):qo m (Den.hold fr ρ σ.objs w) w:=by
 refine ⟨h.mem,⟨?_,⟨h.frame.quiet.os,h.frame.quiet.out,h.frame.quiet.low,h.frame.quiet.qe⟩⟩,?_⟩
 ·intro b o ak
  unfold Den.hold Den.all at ak
  cases hm:fr b with
  |some x=>simp only [hm] at ak;cases ak;exact h.frame.nZ b _ hm
  |none=>
   simp only [hm] at ak
   split at ak
   ·exact ak
   ·cases ak
 ·intro b ak
  show Den.all fr.at_ ρ σ.objs w b=none
  unfold Den.all
  rw [h.apart b ak]
  simp only
  rw [if_neg]
  rintro ⟨k,o,ad,ae,ax⟩
  exact ak (h.own k o b ad ae ax).1
theorem Den.kept(h:Den m fr ρ σ a w){w':World}{ca:Mem}(hle:m.le ca)(cU:qo ca (Den.hold fr ρ σ.objs w) w'):Den ca fr ρ σ a w':=by
 have n6:∀b o,fr b=some o→Den.hold fr ρ σ.objs w b=some o:=Den.yk fr.at_ ρ σ.objs w
 have iU:∀k o b,σ.objs k=some o→o.owns=true→blockOf (ρ k)=some b→ca b=none:=by
  intro k o b ai az ak
  cases hm:ca b with
  |none=>rfl
  |some x=>
   have ad:=cU.apart b (by rw [hm];simp)
   rw [h.Qp ai az ak,Array.getElem?_eq_getElem ((h.objs k o ai).rB az ak)] at ad
   cases ad
 refine ⟨cU.mem,⟨fun b o ak=>cU.frame.nZ b o (n6 b o ak),⟨cU.frame.quiet.os,cU.frame.quiet.out,cU.frame.quiet.low,cU.frame.quiet.qe⟩⟩,?_,h.one,fun t=>(h.aC t).mono hle (fun _ hu=>⟨hu,rfl⟩),?_,fun k o b ad ae ax=>⟨iU k o b ad ae ax,(h.own k o b ad ae ax).2⟩,h.sep⟩
 ·intro b ak
  have:=cU.apart b ak
  cases a4:fr b with
  |none=>rfl
  |some x=>rw [n6 b x a4] at this;cases this
 ·intro k o ai
  refine (h.objs k o ai).mono hle (fun _ hu=>⟨hu,rfl⟩) (fun b az ak=>?_)
  have ad:=h.Qp ai az ak
  have ax:=Array.getElem?_eq_getElem ((h.objs k o ai).rB az ak)
  rw [ax] at ad⊢
  exact cU.frame.nZ b _ ad
end
end Go.Am
namespace Go.Am
set_option linter.unusedVariables false
def dP(o:Option cl):Prop:=(∃cs,o=some (.box cs))∨∃k es,o=some (.row k es)
theorem rG{cs:List AV}:dP (some (.box cs)):= .inl ⟨_,rfl⟩
theorem rH{k:Nat}{es:List (List D)}:dP (some (.row k es)):= .inr ⟨_,_,rfl⟩
theorem rI:¬dP none:=by rintro (⟨_,h⟩|⟨_,_,h⟩)<;>cases h
theorem AY:¬dP (some .dead):=by rintro (⟨_,h⟩|⟨_,_,h⟩)<;>cases h
theorem yl{es:List (Value×D)}:¬dP (some (.map es)):=by rintro (⟨_,h⟩|⟨_,_,h⟩)<;>cases h
theorem ym{o:Option cl}(h:dP o):∃x,o=some x:=by rcases h with⟨_,h⟩|⟨_,_,h⟩<;>exact ⟨_,h⟩
def jx(σ:St)(ρ:cK)(aR:St)(cn:cK):Prop:=∀k,10000≤k→dP (σ.objs k)→dP (aR.objs k)∧cn k=ρ k
theorem jx.refl(σ:St)(ρ:cK):jx σ ρ σ ρ:=fun _ _ h=>⟨h,rfl⟩
theorem jx.trans{fg eT Qr:St}{ld jy Qs:cK}(h:jx fg ld eT jy)(bh:jx eT jy Qr Qs):jx fg ld Qr Qs:=
 fun k ai ak=>let⟨a,b⟩:=h k ai ak;let⟨c,d⟩:=bh k ai a;⟨c,d.trans b⟩
@[simp] theorem St.tb (σ:St) (dst:Option Tmp) (r:AV):(σ.put dst r).objs=σ.objs:=by cases dst<;>rfl
def hq(N:Nat)(m:Mem)(fr:eE)(ρ:cK)(σ:St)(K:St→Prop)(cr:Act)(w':World):Prop:=
 ∃aR ca cn,K aR∧m.le ca∧Den ca fr cn aR cr w'∧N≤cr.tmps.size∧cr.defers=[]∧jx σ ρ aR cn
theorem Den.put{m:Mem}{fr:eE}{ρ:cK}{σ:St}{a:Act}{w:World}(h:Den m fr ρ σ a w){dst:Option Tmp}{r:AV}{v:Value}(au:bK m ρ σ.used r v)(ay:∀d,dst=some d→d<a.tmps.size):
  Den m fr ρ (σ.put dst r) (a.put dst v) w:=by
 cases dst with
 |none=>exact h
 |some d=>
  refine ⟨h.mem,h.frame,h.apart,h.one,?_,h.objs,h.own,h.sep⟩
  intro t
  have bP:=ay d rfl
  by_cases aG:t=d
  ·subst aG
   simp only [St.put,dW,Act.put]
   have:(a.tmps.setIfInBounds t v).getD t undef=v:=by simp [Array.getD,bP]
   rw [this];exact au
  ·simp only [St.put,cq _ _ aG,Act.put]
   have:(a.tmps.setIfInBounds d v).getD t undef=a.tmps.getD t undef:=by
    rw [Array.getD_eq_getD_getElem?,Array.getD_eq_getD_getElem?,Array.getElem?_setIfInBounds,if_neg (Ne.symm aG)]
   rw [this];exact h.aC t
theorem Kf{objs:b6}{k:Key}{o:cl}(h:dP (objs k)→dP (some o)):∀j,dP (objs j)→dP (b0 objs k (some o) j):=by
 intro j aF
 by_cases fe:j=k
 ·subst fe;rw [dW];exact h aF
 ·rw [cq _ _ fe];exact aF
theorem aar{T:bY}{ev:Operand→AV}{objs:b6}{d:Key}{o:Op}{r:AV}{b3:List (Key×cl)}(h:effOp0 T ev objs d o=some (r,b3)):∀j,10000≤j→dP (objs j)→dP (updO objs b3 j):=by
 have new:∀{o:cl},objs d=none→∀j,10000≤j→dP (objs j)→dP (updO objs [(d,o)] j):=by
  intro o ay j _
  exact Kf (fun h=>by rw [ay] at h;exact absurd h rI) j
 have same:∀{k:Key} {dc o:cl},objs k=some dc→(dP (some dc)→dP (some o))→∀j,10000≤j→dP (objs j)→dP (updO objs [(k,o)] j):=by
  intro k dc o ai cc j _
  exact Kf (fun h=>by rw [ai] at h;exact cc h) j
 cases o<;>simp only [effOp0,reduceCtorEq] at h
 case alloc=>split at h<;>cases h;exact new (by assumption)
 case box=>split at h<;>cases h;exact new (by assumption)
 case buildSlice=>
  split at h
  case h_2=>cases h
  split at h
  case h_2=>cases h
  split at h
  case h_2=>cases h
  split at h<;>cases h
  exact new (by assumption)
 case makeSlice=>
  split at h
  case h_2=>cases h
  split at h
  case h_2=>cases h
  split at h
  case h_2=>cases h
  split at h<;>cases h
  exact new (by assumption)
 case makeMap=>split at h<;>cases h;exact new (by assumption)
 case store=>
  split at h
  case h_2=>cases h
  split at h
  case isFalse=>cases h
  split at h
  ·split at h
   case h_2=>cases h
   split at h<;>cases h
   exact fun j _=>Kf (fun _=>rG) j
  ·split at h
   case h_2=>cases h
   split at h
   case isFalse=>cases h
   split at h<;>cases h
   exact same (by assumption) (fun _=>rH)
  ·cases h
 case mapUpdate=>
  split at h
  case h_2=>cases h
  split at h
  case h_2=>cases h
  split at h
  case isFalse=>cases h
  split at h
  case h_2=>cases h
  split at h
  case h_2=>cases h
  split at h<;>cases h
  exact same (by assumption) (fun h=>absurd h yl)
 case insert=>
  split at h
  case h_2=>cases h
  split at h
  case h_2=>cases h
  split at h
  case isFalse=>cases h
  split at h
  case h_2=>cases h
  split at h
  case h_2=>cases h
  split at h<;>cases h
  exact same (by assumption) (fun h=>absurd h yl)
 case call=>
  split at h
  ·split at h
   case h_2=>cases h
   split at h
   case h_2=>cases h
   split at h
   case h_2=>cases h
   split at h
   case h_2=>cases h
   split at h
   case isFalse=>cases h
   split at h
   ·split at h<;>cases h
    exact new (by assumption)
   ·split at h
    case h_2=>cases h
    split at h<;>cases h
    rename_i ay _ _ _ _ _ _ _ _ _ _ _ _ ai _ _
    rename_i FD
    intro j cM aF
    have aas:j≠d:=by rintro rfl;simp_all [rI]
    simp only [updO]
    rw [cq _ _ aas,cq _ _ (by rintro rfl;exact absurd FD.2.2.2 (Nat.not_lt.2 cM))]
    exact aF
   ·cases h
  ·split at h
   case h_2=>cases h
   split at h
   case h_2=>cases h
   split at h
   case h_2=>cases h
   split at h
   case h_2=>cases h
   split at h
   case isFalse=>cases h
   split at h
   ·split at h
    case h_2=>cases h
    split at h<;>cases h
    exact same (by assumption) (fun _=>rH)
   ·split at h
    case h_2=>cases h
    split at h<;>cases h
    exact same (by assumption) (fun _=>rH)
   ·cases h
  ·cases h
theorem Qt{T:bY}{ev:Operand→AV}{objs:b6}{d:Key}{o:Op}{k:Key}{off:Nat}{b3:List (Key×cl)}(h:effOp0 T ev objs d o=some (.ptr k off,b3)):objs d=none:=by
 cases o<;>simp only [effOp0,reduceCtorEq] at h
 case alloc=>split at h<;>cases h;assumption
 case box=>split at h<;>cases h;assumption
 all_goals (repeat' split at h)<;>cases h
theorem Qu{T:bY}{ev:Operand→AV}{objs:b6}{d:Key}{o:Op}{b3:List (Key×cl)}(h:effOp0 T ev objs d o=some (.row d,b3)):objs d=none:=by
 cases o<;>simp only [effOp0,reduceCtorEq] at h
 all_goals (repeat' split at h)<;>cases h<;>assumption
theorem aat{T:bY}{ev:Operand→AV}{objs:b6}{d:Key}{o:Op}{r:AV}{b3:List (Key×cl)}(h:fF T ev objs d o=some (r,b3)):∀j,10000≤j→dP (objs j)→dP (updO objs b3 j):=by
 obtain ⟨⟨g1,qn⟩,aq,ak⟩:=ta h
 have ad:=aar aq
 intro j cM aF
 have aJ:∀{o:cl},objs d=none→j≠d:=by rintro o ay rfl;rw [ay] at aF;exact rI aF
 rcases u1 (T.born d) d g1 qn with e|⟨n,es,rfl,rfl,e⟩|⟨n3,n,es,rfl,rfl,e⟩|⟨off,cs,aD,rfl,rfl,ec,e⟩
 ·rw [ak] at e;cases e;exact ad j cM aF
 ·rw [ak] at e;cases e
  have ay:=aJ (o:= .dead) (Qu aq)
  have:=ad j cM aF
  simp only [updO,cq _ _ ay] at this⊢
  exact this
 ·rw [ak] at e;cases e
  have ay:=aJ (o:= .dead) (Qu aq)
  have:=ad j cM aF
  simp only [updO,cq _ _ ay] at this⊢
  exact this
 ·rw [ak] at e;cases e
  have ay:=aJ (o:= .dead) (Qt aq)
  simp only [updO,cq _ _ ay];exact aF
section
variable{P:Program}{T:bY}{G:cT}{m:Mem}{fr:eE}{ρ:cK}{σ:St}{a:Act}{w:World}{N:Nat}
theorem aau(a0:dn P T)(cy:iz G m)(h:Den m fr ρ σ a w)(bQ:N≤a.tmps.size)(fU:a.defers=[]){o:Oper}(fx:∀d,o.dst=some d→d<N){aR:St}(aB:stepA T G σ o=some aR){K:St→Prop}(fV:K aR){Q:Exit→Act→World→Prop}:
  o.wp P a w (hq N m fr ρ σ K) Q:=by
 have cW:=AD (a:=a) cy h.aC
 have hr:∀d,o.dst=some d→d<a.tmps.size:=fun d ay=>Nat.lt_of_lt_of_le (fx d ay) bQ
 have qp:∀v,N≤(a.put o.dst v).tmps.size:=by intro v;cases o.dst<;>simpa [Act.put] using bQ
 have kl:∀v,(a.put o.dst v).defers=[]:=by intro v;cases o.dst<;>exact fU
 unfold Oper.wp
 unfold stepA at aB
 split at aB
 ·rename_i r au
  cases aB
  obtain ⟨v,ad,ae⟩:=ZG (P:=P) (w:=w) (o:=o) a0 h.one cW au
  rw [ad]
  exact ⟨_,m,ρ,fV,Mem.le_refl m,h.put ae hr,qp v,kl v,fun k ai ak=>⟨by simpa using ak,rfl⟩⟩
 ·split at aB
  ·rename_i r au
   cases aB
   obtain ⟨v,ad,ae⟩:=ZN (P:=P) (w:=w) (o:=o) a0 h.mem h.objs cW au
   rw [ad]
   exact ⟨_,m,ρ,fV,Mem.le_refl m,h.put ae hr,qp v,kl v,fun k ai ak=>⟨by simpa using ak,rfl⟩⟩
  ·split at aB
   case h_2=>cases aB
   rename_i r b3 au
   cases aB
   obtain ⟨nx,v,w',ca,cn,ad,ae,hm,ax,aZ,bI⟩:=aal (P:=P) (o:=o) a0 h cW au
   rw [ad]
   have fin:hq N m fr ρ σ K (a.put o.dst v) w':=
    ⟨_,ca,cn,fV,hm,ax.put aZ hr,qp v,kl v,fun k ai ak=>⟨by rw [St.tb];exact aat au k ai ak,by obtain ⟨c,aj⟩:=ym ak;exact (bI k ⟨_,aj⟩).2⟩⟩
   rcases ae with rfl|⟨rfl,rfl⟩
   ·exact fin
   ·exact fin
def calleeA:AV→Option (FuncId×List AV×List AV)
 | .d (.val (.func (.func f) first cap))=>if first.size=0∧cap.size=0 then some (f,[],[]) else none
 | .fn (.func f) first cap=>some (f,first,cap)
 | .d (.fn (.func f) first cap)=>some (f,first.map .d,cap.map .d)
 |_=>none
def yn:AV→Bool
 | .d _=>true
 | .dO _ _=>true
 |_=>false
def isDA:AV→Bool
 | .agg cs=>cs.all yn
 | .fn _ as h7=>as.all yn&&h7.all yn
 |x=>yn x
theorem Kg{m:Mem}{ρ:cK}{U:Key→Prop}{objs:b6}{x:AV}{d:D}{v:Value}(h:yn x=true)(ay:toD0 objs x=some d)(aM:bK m ρ U x v):cS m d v:=by
 cases x<;>first|cases h|skip
 ·simp only [toD0,toDa] at ay;cases ay;exact aM.mu
 ·simp only [toD0] at ay;cases ay
  cases aM with|dO _ _ b o vs T dI hm xs ad ae=>exact .ref _ _ b o vs T dI hm xs ad ae
theorem Kh{m:Mem}{ρ:cK}{U:Key→Prop}{objs:b6}{cs:List AV}{aD:List D}{vs:Array Value}(h:cs.all yn=true)(ay:allSome (cs.map (toD0 objs))=some aD)(an:vs.size=cs.length)
  (aM:∀(i:Nat) (c:AV) (v:Value),cs[i]?=some c→vs[i]?=some v→bK m ρ U c v):vs.size=aD.length∧∀(i:Nat) (c:D) (v:Value),aD[i]?=some c→vs[i]?=some v→cS m c v:=by
 obtain ⟨ad,ae⟩:=oV ay
 refine ⟨by rw [ad,an];simp,fun i c v aj af=>?_⟩
 have ax:=ae i c aj
 simp only [List.getElem?_map,Option.map_eq_some_iff] at ax
 obtain ⟨y,aT,tc⟩:=ax
 exact Kg (List.all_eq_true.1 h y (List.mem_of_getElem? aT)) tc (aM i y v aT af)
theorem Ki{m:Mem}{ρ:cK}{U:Key→Prop}{objs:b6}{x:AV}{d:D}{v:Value}(h:isDA x=true)(ay:toD objs x=some d)(aM:bK m ρ U x v):cS m d v:=by
 cases x
 case agg cs=>
  simp only [toD,toD1] at ay
  split at ay
  case h_2=>cases ay
  rename_i aD ec
  cases ay
  cases aM with|agg _ vs an bp=>
  obtain ⟨a2,bb⟩:=Kh h ec an bp
  exact .agg _ _ a2 bb
 case fn f as h7=>
  simp only [isDA,Bool.and_eq_true] at h
  simp only [toD,toD1] at ay
  split at ay
  case h_2=>cases ay
  rename_i aD yo ec aav
  cases ay
  cases aM with|fn _ _ _ vs ws an dS bp u4=>
  obtain ⟨a2,bb⟩:=Kh h.1 ec an bp
  obtain ⟨bJ,ek⟩:=Kh h.2 aav dS u4
  exact .fn _ _ _ _ _ a2 bJ bb ek
 case d y=>exact Kg (x:= .d y) rfl (by simpa [toD,toD1] using ay) aM
 case dO cs off=>exact Kg (x:= .dO cs off) rfl (by simpa [toD,toD1] using ay) aM
 all_goals cases h
def Qv(P:Program)(G:cT)(σ:St)(dst:Option Tmp)(f:FuncId)(rJ:List AV)(K:St→Prop):Prop:=
 ∃lf aD dX,allSome (rJ.map (toD σ.objs))=some lf∧oU lf aD∧dq P G f aD dX∧(∃g1,dX=(·=g1))∧((∀r,dX r→r.flat=true)∨rJ.all isDA=true)∧∀r,dX r→K (σ.put dst (.d r))
def vCall(P:Program)(G:cT)(o:Oper)(σ:St)(K:St→Prop):Prop:=
 match o.op with
 | .call ⟨.value x,args,_⟩=>match calleeA (evA G σ.aC x) with
  |some (f,pre,post)=>Qv P G σ o.dst f (pre++args.toList.map (evA G σ.aC)++post) K
  |none=>False
 |_=>False
def vDo(P:Program)(T:bY)(G:cT)(o:Oper)(K:St→Prop)(σ:St):Prop:=
 match stepA T G σ o with
 |some aR=>K aR
 |none=>vCall P G o σ K
def vOp(P:Program)(T:bY)(G:cT)(all:Array Oper)(o:Oper)(K:St→Prop)(σ:St):Prop:=
 match o.guard with
 |none=>vDo P T G o K σ
 |some (j,want)=>match(all[j]?).bind (·.dst) with
  |some d=>match σ.aC d with
   | .d (.val (.bool b))=>if b=want then vDo P T G o K σ else K (σ.put o.dst (.d (.val (.tuple #[]))))
   | .d (.val (.tuple _))=>K (σ.put o.dst (.d (.val (.tuple #[]))))
   |_=>False
  |none=>False
def vOps(P:Program)(T:bY)(G:cT)(all:Array Oper):List Oper→(St→Prop)→St→Prop
 |[],K,σ=>K σ
 |o::r,K,σ=>vOp P T G all o (vOps P T G all r K) σ
theorem Qw{va:Operand→Value}{x:Operand}{args:Array Operand}{dd:Array TypeId}{ty:TypeId}{f:FuncId}{first cap:Array Value}(ah:va x= .func (.func f) first cap)(a4:u3 P f):
  (do let d←resolve va {callee:= .value x,args:=args,argTypes:=dd} ty;invoke d.target d.args:Sem Next).run P w= .ok (.enter f (first++args.map va++cap)) w:=by
 obtain ⟨fn,ad,ae,ax⟩:=a4
 simp only [Sem.run_bind,resolve,ah,Deferred.ofValue,Sem.run_pure,Result.andThen_ok,invoke,callFunc,program,Sem.run,ad,ae,ax,Bool.false_eq_true,if_false]
theorem aaw(cy:iz G m)(h:Den m fr ρ σ a w)(bQ:N≤a.tmps.size)(fU:a.defers=[]){o:Oper}(fx:∀d,o.dst=some d→d<N){K:St→Prop}(aj:vCall P G o σ K){Q:Exit→Act→World→Prop}:
  o.wp P a w (hq N m fr ρ σ K) Q:=by
 have cW:=AD (a:=a) cy h.aC
 have hr:∀d,o.dst=some d→d<a.tmps.size:=fun d ay=>Nat.lt_of_lt_of_le (fx d ay) bQ
 have qp:∀v,N≤(a.put o.dst v).tmps.size:=by intro v;cases o.dst<;>simpa [Act.put] using bQ
 have kl:∀v,(a.put o.dst v).defers=[]:=by intro v;cases o.dst<;>exact fU
 unfold vCall at aj
 split at aj
 case h_2=>cases aj
 rename_i x args dd dj
 split at aj
 case h_2=>cases aj
 rename_i f pre post fG
 obtain ⟨lf,aD,dX,ad,ae,ax,aZ,bI,b9⟩:=aj
 have ah:=cW x
 have Kj:∃first cap,a.eval x= .func (.func f) first cap∧first.size=pre.length∧cap.size=post.length∧
   (∀(i:Nat) (c:AV) (v:Value),pre[i]?=some c→first[i]?=some v→bK m ρ σ.used c v)∧(∀(i:Nat) (c:AV) (v:Value),post[i]?=some c→cap[i]?=some v→bK m ρ σ.used c v):=by
  unfold calleeA at fG
  split at fG
  ·rename_i hB first cap he
   split at fG
   case isFalse=>cases fG
   rename_i aq
   cases fG
   rw [he] at ah
   exact ⟨first,cap,ah.gp,by simpa using aq.1,by simpa using aq.2,by intro i c v aj;simp at aj,by intro i c v aj;simp at aj⟩
  ·rename_i hB first cap he
   cases fG
   rw [he] at ah
   generalize a.eval x=u at ah
   cases ah with|fn _ _ _ vs ws an dS g oW=>exact ⟨vs,ws,rfl,an,dS,g,oW⟩
  ·rename_i hB first cap he
   cases fG
   rw [he] at ah
   have ah:=ah.mu
   generalize a.eval x=u at ah
   cases ah with|fn _ _ _ vs ws an dS g oW=>
   refine ⟨vs,ws,rfl,by simpa using an,by simpa using dS,?_,?_⟩
   ·intro i c v aj aM
    simp only [List.getElem?_map,Option.map_eq_some_iff] at aj
    obtain ⟨y,aT,rfl⟩:=aj
    exact .d _ _ (g i y v aT aM)
   ·intro i c v aj aM
    simp only [List.getElem?_map,Option.map_eq_some_iff] at aj
    obtain ⟨y,aT,rfl⟩:=aj
    exact .d _ _ (oW i y v aT aM)
  ·cases fG
 obtain ⟨first,cap,s3,lH,na,a2,bb⟩:=Kj
 have fp:∀(i:Nat) (c:AV) (v:Value),(pre++args.toList.map (evA G σ.aC)++post)[i]?=some c→(first++args.map a.eval++cap).toList[i]?=some v→bK m ρ σ.used c v:=by
  intro i c v aj aM
  simp only [Array.toList_append,Array.toList_map] at aM
  have aQ:first.toList.length=pre.length:=by simpa using lH
  by_cases ad:i<pre.length
  ·rw [List.append_assoc,List.getElem?_append_left ad] at aj
   rw [List.append_assoc,List.getElem?_append_left (by omega)] at aM
   exact a2 i c v aj (by simpa using aM)
  ·by_cases ae:i<pre.length+args.size
   ·rw [List.getElem?_append_left (by simp;omega),List.getElem?_append_right (by omega)] at aj
    rw [List.getElem?_append_left (by simp;omega),List.getElem?_append_right (by omega),aQ] at aM
    simp only [List.getElem?_map,Option.map_eq_some_iff] at aj aM
    obtain ⟨p,aV,rfl⟩:=aj
    obtain ⟨q,bL,rfl⟩:=aM
    rw [aV] at bL;cases bL
    exact cW _
   ·rw [List.getElem?_append_right (by simp;omega)] at aj
    rw [List.getElem?_append_right (by simp;omega)] at aM
    refine bb _ c v aj ?_
    rw [←aM]
    simp only [List.length_append,List.length_map,Array.length_toList,lH]
    simp
 have hlen:(first++args.map a.eval++cap).toList.length=(pre++args.toList.map (evA G σ.aC)++post).length:=by simp [lH,na]
 have Kk:(execOp a.eval o).run P w= .ok (.enter f (first++args.map a.eval++cap)) w:=by
  unfold execOp
  rw [dj]
  exact Qw s3 ax.fn
 unfold Oper.wp
 rw [Kk]
 rcases bI with bI|bI
 ·
  have cu:=oU.ok ae (aap h hlen fp ad)
  have qq:=ax.run _ fr w _ (cy.mono (Den.yk m ρ σ.objs w)) h.Ql cu
  simp only [Array.toArray_toList] at qq
  refine qq.mono fun e w' he=>?_
  obtain ⟨v,ca,r,rfl,br,bj,bS,db⟩:=he
  have b1:=h.aaq bj bS
  exact ⟨_,m,ρ,b9 r br,Mem.le_refl m,b1.put (.d _ _ (D.aan (bI r br) db)) hr,qp v,kl v,fun k ai ak=>⟨by simpa using ak,rfl⟩⟩
 ·have Kl:u2 m lf (first++args.map a.eval++cap).toList:=by
   obtain ⟨a2,bb⟩:=oV ad
   refine ⟨by rw [hlen,a2];simp,?_⟩
   intro i d v ay aM
   have bJ:=bb i d ay
   rw [List.getElem?_map,Option.map_eq_some_iff] at bJ
   obtain ⟨y,aT,rK⟩:=bJ
   exact Ki (List.all_eq_true.1 bI y (List.mem_of_getElem? aT)) rK (fp i y v aT aM)
  have qq:=ax.run m _ w _ cy h.Qq (oU.ok ae Kl)
  simp only [Array.toArray_toList] at qq
  refine qq.mono fun e w' he=>?_
  obtain ⟨v,ca,r,rfl,br,bj,bS,db⟩:=he
  have b1:=h.kept bj bS
  exact ⟨_,ca,ρ,b9 r br,bj,b1.put (.d _ _ db) hr,qp v,kl v,fun k ai ak=>⟨by simpa using ak,rfl⟩⟩
theorem Km(a0:dn P T)(cy:iz G m)(h:Den m fr ρ σ a w)(bQ:N≤a.tmps.size)(fU:a.defers=[]){o:Oper}(fx:∀d,o.dst=some d→d<N){K:St→Prop}(aj:vDo P T G o K σ){Q:Exit→Act→World→Prop}:
  o.wp P a w (hq N m fr ρ σ K) Q:=by
 unfold vDo at aj
 split at aj
 ·exact aau a0 cy h bQ fU fx (by assumption) aj
 ·exact aaw cy h bQ fU fx aj
theorem vOp_ok(a0:dn P T)(cy:iz G m)(h:Den m fr ρ σ a w)(bQ:N≤a.tmps.size)(fU:a.defers=[]){all:Array Oper}{i:Nat}{o:Oper}(af:all[i]?=some o)(fx:∀d,o.dst=some d→d<N){K:St→Prop}(aj:vOp P T G all o K σ)
  {Q:Exit→Act→World→Prop}:wpOp P all Q i (hq N m fr ρ σ K) a w:=by
 have hr:∀d,o.dst=some d→d<a.tmps.size:=fun d ay=>Nat.lt_of_lt_of_le (fx d ay) bQ
 unfold wpOp
 simp only [af]
 unfold vOp at aj
 split at aj
 ·rename_i bx
  have:Region.wanted o (yielded all a.tmps)=true:=by simp [Region.wanted,bx]
  rw [if_pos this]
  exact .inl (Km a0 cy h bQ fU fx aj)
 ·rename_i j want bx
  split at aj
  case h_2=>cases aj
  rename_i d ay
  have km:∀v,a.tmps.getD d undef=v→yielded all a.tmps j=(match v with| .bool b=>some b|_=>none):=by
   intro v aM
   unfold yielded
   rw [ay]
   simp only [Option.bind_some]
   rw [Array.getD_eq_getD_getElem?] at aM
   cases bP:a.tmps[d]? with
   |none=>
    rw [bP] at aM
    simp only [Option.getD_none] at aM
    subst aM
    rfl
   |some u=>
    rw [bP] at aM
    simp only [Option.getD_some] at aM
    subst aM
    cases u<;>rfl
  have skip:Region.wanted o (yielded all a.tmps)=false→K (σ.put o.dst (.d (.val (.tuple #[]))))→hq N m fr ρ σ K (a.put o.dst undef) w:=fun _ ai=>
   ⟨_,m,ρ,ai,Mem.le_refl m,h.put (.d _ _ (.val _)) hr,by cases o.dst<;>simpa [Act.put] using bQ,by cases o.dst<;>exact fU,fun k ai ak=>⟨by simpa using ak,rfl⟩⟩
  split at aj
  ·rename_i b aB
   have aM:=h.aC d
   rw [aB] at aM
   have aT:=km _ aM.gp
   simp only at aT
   have hw:Region.wanted o (yielded all a.tmps)=(b==want):=by
    simp only [Region.wanted,bx,aT]
    cases b<;>cases want<;>rfl
   by_cases ak:b=want
   ·rw [if_pos ak] at aj
    rw [hw,if_pos (by simpa using ak)]
    exact .inl (Km a0 cy h bQ fU fx aj)
   ·rw [if_neg ak] at aj
    have a4:Region.wanted o (yielded all a.tmps)=false:=by rw [hw];simpa using ak
    rw [if_neg (by rw [a4];simp)]
    exact skip a4 aj
  ·rename_i vs aB
   have aM:=h.aC d
   rw [aB] at aM
   have aT:=km _ aM.gp
   simp only at aT
   have a4:Region.wanted o (yielded all a.tmps)=false:=by
    simp only [Region.wanted,bx,aT];rfl
   rw [if_neg (by rw [a4];simp)]
   exact skip a4 aj
  ·cases aj
theorem wpOp_mono{ops:Array Oper}{Q:Exit→Act→World→Prop}{i:Nat}{K K':Act→World→Prop}(ai:∀a w,K a w→K' a w){a:Act}{w:World}(h:wpOp P ops Q i K a w):wpOp P ops Q i K' a w:=by
 unfold wpOp at*
 split
 ·rename_i e;simp only [e] at h;exact ai _ _ h
 ·rename_i o e
  simp only [e] at h
  split
  ·rename_i hw
   rw [if_pos hw] at h
   rcases h with h|h
   ·refine .inl ?_
    unfold Oper.wp at*
    generalize (execOp a.eval o).run P w=r at*
    cases r with
    |ok n w'=>
     cases n<;>simp only [Oper.upon] at h⊢<;>first|exact ai _ _ h|exact h|skip
     ·refine h.mono fun e iX he=>?_
      cases e with
      |returned v=>exact ai _ _ he
      |panicked c=>exact he
      |outgrown=>exact he
     ·exact h.mono fun v iX he=>ai _ _ he
    |halt x w'=>cases x<;>exact h
   ·exact .inr h
  ·rename_i hw
   rw [if_neg hw] at h
   exact ai _ _ h
end
end Go.Am
namespace Go.Am
set_option linter.unusedVariables false
theorem FE{ev hs:Operand→AV}{l:List Operand}(h:∀x∈l,ev x=hs x):l.map ev=l.map hs:=List.map_congr_left h
theorem Qx{ev hs:Operand→AV}{hY:Array (Nat×Operand)}(h:∀x∈(hY.toList.map (·.2)),ev x=hs x):(hY.toList.map fun p=>(p.1,ev p.2))=hY.toList.map fun p=>(p.1,hs p.2):=
 List.map_congr_left fun p aV=>by rw [h p.2 (List.mem_map.2 ⟨p,aV,rfl⟩)]
theorem aax{T:bY}{ev hs:Operand→AV}{op:Op}(h:∀x∈op.operands.toList,ev x=hs x):pureOp T ev op=pureOp T hs op:=by
 cases op<;>simp only [pureOp]
 case move x=>rw [h x (by simp [Op.operands])]
 case assign x=>rw [h x (by simp [Op.operands])]
 case pick c a b=>rw [h c (by simp [Op.operands]),h a (by simp [Op.operands]),h b (by simp [Op.operands])]
 case binOp op t x y uO=>rw [h x (by simp [Op.operands]),h y (by simp [Op.operands])]
 case unOp op t x=>rw [h x (by simp [Op.operands])]
 case convert s t x=>rw [h x (by simp [Op.operands])]
 case fieldAddr s x f=>rw [h x (by simp [Op.operands])]
 case field s x f=>rw [h x (by simp [Op.operands])]
 case extract x i=>rw [h x (by simp [Op.operands])]
 case build t parts=>rw [Qx (by simpa [Op.operands] using h)]
 case index t x i=>rw [h x (by simp [Op.operands]),h i (by simp [Op.operands])]
 case makeFunc f first cap=>
  rw [FE (l:=first.toList) (fun x ah=>h x (by simp [Op.operands] at ah⊢;exact .inl ah)),FE (l:=cap.toList) (fun x ah=>h x (by simp [Op.operands] at ah⊢;exact .inr ah))]
 case makeInterface t x=>rw [h x (by simp [Op.operands])]
 case nilCheck x=>rw [h x (by simp [Op.operands])]
 case slice t x lo af eS=>
  cases eS with
  |some _=>rfl
  |none=>
   simp only [pureOp]
   have aQ:lo.map ev=lo.map hs:=by cases lo with|none=>rfl|some l=>simp only [Option.map_some];rw [h l (by simp [Op.operands])]
   have aW:af.map ev=af.map hs:=by cases af with|none=>rfl|some l=>simp only [Option.map_some];rw [h l (by simp [Op.operands])]
   rw [h x (by simp [Op.operands]),aQ,aW]
 case call c=>
  obtain ⟨callee,args,dd⟩:=c
  simp only
  have e:args.toList.map ev=args.toList.map hs:=FE fun x ah=>h x (by simp [Op.operands,Call.operands] at ah⊢;exact .inr ah)
  rw [e]
theorem aay{T:bY}{ev hs:Operand→AV}{objs:b6}{op:Op}(h:∀x∈op.operands.toList,ev x=hs x):memOp T ev objs op=memOp T hs objs op:=by
 cases op<;>simp only [memOp]
 case load t a=>rw [h a (by simp [Op.operands])]
 case indexAddr t x ej=>rw [h x (by simp [Op.operands]),h ej (by simp [Op.operands])]
 case slice t x lo af eS=>
  cases eS with
  |some _=>rfl
  |none=>
   simp only [memOp]
   have aQ:lo.map ev=lo.map hs:=by cases lo with|none=>rfl|some l=>simp only [Option.map_some];rw [h l (by simp [Op.operands])]
   have aW:af.map ev=af.map hs:=by cases af with|none=>rfl|some l=>simp only [Option.map_some];rw [h l (by simp [Op.operands])]
   rw [h x (by simp [Op.operands]),aQ,aW]
 case call c=>
  obtain ⟨callee,args,dd⟩:=c
  simp only
  split
  ·split
   ·rename_i t x mw jQ
    have aA:args= #[x]:=by apply Array.ext';simpa using jQ
    have e:ev x=hs x:=h x (by simp [Op.operands,Call.operands,aA])
    rw [e]
   ·rfl
  ·rfl
 case lookup t x k ok=>rw [h x (by simp [Op.operands]),h k (by simp [Op.operands])]
 case binOp op t x y uO=>rw [h x (by simp [Op.operands]),h y (by simp [Op.operands])]
theorem aaz{T:bY}{ev hs:Operand→AV}{objs:b6}{d:Key}{op:Op}(h:∀x∈op.operands.toList,ev x=hs x):effOp0 T ev objs d op=effOp0 T hs objs d op:=by
 cases op<;>simp only [effOp0]
 case box t x=>rw [h x (by simp [Op.operands])]
 case buildSlice t n parts=>rw [Qx (by simpa [Op.operands] using h)]
 case makeSlice t l c=>rw [h l (by simp [Op.operands]),h c (by simp [Op.operands])]
 case store t a x=>rw [h a (by simp [Op.operands]),h x (by simp [Op.operands])]
 case mapUpdate t m k x=>rw [h m (by simp [Op.operands]),h k (by simp [Op.operands]),h x (by simp [Op.operands])]
 case insert t m k x=>rw [h m (by simp [Op.operands]),h k (by simp [Op.operands]),h x (by simp [Op.operands])]
 case call c=>
  obtain ⟨callee,args,dd⟩:=c
  simp only
  split
  ·split
   ·rename_i t t' s x mw jQ
    have aA:args= #[s,x]:=by apply Array.ext';simpa using jQ
    have aQ:ev s=hs s:=h s (by simp [Op.operands,Call.operands,aA])
    have aW:ev x=hs x:=h x (by simp [Op.operands,Call.operands,aA])
    rw [aQ,aW]
   ·rfl
  ·split
   ·rename_i t t' s x mw jQ
    have aA:args= #[s,x]:=by apply Array.ext';simpa using jQ
    have aQ:ev s=hs s:=h s (by simp [Op.operands,Call.operands,aA])
    have aW:ev x=hs x:=h x (by simp [Op.operands,Call.operands,aA])
    rw [aQ,aW]
   ·rfl
  ·rfl
theorem aaA{T:bY}{ev hs:Operand→AV}{objs:b6}{d:Key}{op:Op}(h:∀x∈op.operands.toList,ev x=hs x):fF T ev objs d op=fF T hs objs d op:=by
 unfold fF;rw [aaz h]
def hf:Op→Bool
 | .move _| .assign _| .pick ..| .unOp ..| .convert ..| .fieldAddr ..| .field ..| .extract ..| .build ..| .index ..| .makeFunc ..| .makeInterface ..| .nilCheck _=>true
 |_=>false
def hC:Op→Bool
 | .load ..| .indexAddr ..| .slice ..| .lookup ..| .binOp ..=>true
 | .call ⟨.builtin b,_,_⟩=>match b with
  | .len| .max| .min=>true
  |_=>false
 |_=>false
def fW:Op→Bool
 | .call ⟨.value _,_,_⟩=>true
 |_=>false
def n7:Op→Bool
 | .alloc _| .box ..| .buildSlice ..=>true
 |_=>false
theorem yp{T:bY}{ev:Operand→AV}{objs:b6}{d:Key}{op:Op}(h:hf op=true):memOp T ev objs op=none∧fF T ev objs d op=none:=by
 cases op<;>first|exact ⟨rfl,rfl⟩|cases h
theorem yq{T:bY}{ev:Operand→AV}{objs:b6}{d:Key}{op:Op}(h:hC op=true):fF T ev objs d op=none:=by
 cases op
 case call c=>
  obtain ⟨callee,args,dd⟩:=c
  cases callee with
  |value=>cases h
  |invoke=>cases h
  |builtin b=>cases b<;>first|rfl|cases h
 all_goals first|rfl|cases h
theorem Kn{T:bY}{ev:Operand→AV}{objs:b6}{d:Key}{op:Op}(h:fW op=true):pureOp T ev op=none∧memOp T ev objs op=none∧fF T ev objs d op=none:=by
 cases op
 case call c=>
  obtain ⟨callee,args,dd⟩:=c
  cases callee with
  |value=>exact ⟨rfl,rfl,rfl⟩
  |invoke=>cases h
  |builtin b=>cases h
 all_goals cases h
theorem oX{T:bY}{ev:Operand→AV}{objs:b6}{op:Op}(h:n7 op=true):pureOp T ev op=none∧memOp T ev objs op=none:=by
 cases op<;>first|exact ⟨rfl,rfl⟩|cases h
theorem aaB{T:bY}{ev:Operand→AV}{objs objs':b6}{d:Key}{op:Op}(h:n7 op=true)(aq:objs' d=none){r:AV}{b3:List (Key×cl)}(he:effOp0 T ev objs d op=some (r,b3)):
  effOp0 T ev objs' d op=some (r,b3)∧objs d=none∧∃o,b3=[(d,o)]:=by
 cases op
 case alloc t=>
  simp only [effOp0] at he⊢
  split at he
  case h_2=>cases he
  rename_i i aG ay
  cases he
  exact ⟨by simp only [aq,aG],ay,_,rfl⟩
 case box t x=>
  simp only [effOp0] at he⊢
  split at he
  case h_2=>cases he
  rename_i cs aj ay
  cases he
  exact ⟨by simp only [aq,aj],ay,_,rfl⟩
 case buildSlice t n parts=>
  simp only [effOp0] at he⊢
  split at he
  case h_2=>cases he
  rename_i e s b z aG ay
  simp only [aq,aG]
  split at he
  case h_2=>cases he
  rename_i bd hW
  try simp only [hW]
  split at he
  case h_2=>cases he
  rename_i es aV
  try simp only [aV]
  split at he
  case isFalse=>cases he
  rename_i aj
  cases he
  exact ⟨by rw [if_pos aj],ay,_,rfl⟩
 all_goals cases h
theorem yr{T:bY}{ev:Operand→AV}{objs objs':b6}{d:Key}{op:Op}(h:n7 op=true)(aq:objs' d=none){r:AV}{b3:List (Key×cl)}(he:fF T ev objs d op=some (r,b3)):
  fF T ev objs' d op=some (r,b3)∧objs d=none∧∃o,b3=[(d,o)]:=by
 obtain ⟨⟨g1,qn⟩,e5,ak⟩:=ta he
 obtain ⟨a2,bb,o,rfl⟩:=aaB (objs':=objs') h aq e5
 refine ⟨by unfold fF;rw [a2];simp [ak],bb,?_⟩
 rcases u1 (T.born d) d g1 [(d,o)] with e|⟨n,es,aQ,aW,e⟩|⟨n3,n,es,aQ,aW,e⟩|⟨off,cs,aD,aQ,aW,ec,e⟩
 ·rw [ak] at e;cases e;exact ⟨o,rfl⟩
 ·rw [ak] at e;cases e;exact ⟨_,rfl⟩
 ·cases aW
 ·rw [ak] at e;cases e;exact ⟨_,rfl⟩
def b6.ext(objs objs':b6):Prop:=∀k o,objs k=some o→objs' k=some o
theorem b6.FF{objs:b6}{k:Key}(h:objs k=none)(o:cl):objs.ext (b0 objs k (some o)):=by
 intro j x ah
 have:j≠k:=by rintro rfl;rw [h] at ah;cases ah
 rw [cq _ _ this];exact ah
theorem Qy{objs objs':b6}(h:objs.ext objs'){x:AV}{n:Nat}(an:lenA objs x=some n):lenA objs' x=some n:=by
 unfold lenA at*
 split at an
 ·exact an
 ·exact an
 ·split at an
  ·rename_i ai;rw [h _ _ ai];exact an
  ·cases an
 ·exact an
 ·cases an
theorem FG{objs objs':b6}(h:objs.ext objs'){x:AV}{b:Bool}(an:someS objs x=some b):someS objs' x=some b:=by
 unfold someS at*
 split at an
 ·exact an
 ·exact an
 ·split at an
  ·rename_i ai;rw [h _ _ ai];exact an
  ·cases an
 ·cases an
theorem Qz{objs objs':b6}(h:objs.ext objs'){x:AV}{d:D}(an:toDa objs x=some d):toDa objs' x=some d:=by
 unfold toDa at*
 split at an
 ·exact an
 ·split at an
  ·rename_i ai;rw [h _ _ ai];exact an
  ·cases an
 ·split at an
  ·rename_i ai;rw [h _ _ ai];exact an
  ·cases an
 ·split at an
  ·rename_i ai;rw [h _ _ ai];exact an
  ·cases an
 ·cases an
theorem nf{α:Type}{f g:AV→Option α}(h:∀x d,f x=some d→g x=some d):∀(l:List AV) (r:List α),allSome (l.map f)=some r→allSome (l.map g)=some r
 |[],r,au=>au
 |x::l,r,au=>by
  simp only [List.map_cons] at au⊢
  cases ah:f x with
  |none=>simp [ah,allSome] at au
  |some d=>
   rw [ah] at au
   simp only [allSome] at au
   split at au
   case h_2=>cases au
   rename_i oS dS
   rw [h x d ah]
   simp only [allSome,nf h l oS dS]
   exact au
theorem FH{objs objs':b6}(h:objs.ext objs'){x:AV}{d:D}(an:toD0 objs x=some d):toD0 objs' x=some d:=by
 unfold toD0 at*
 split at an
 ·split at an
  case h_2=>cases an
  rename_i ai
  simp only [h _ _ ai]
  split at an
  case h_2=>cases an
  rename_i cs gC
  rw [nf (fun x d ah=>Qz h ah) _ _ gC]
  exact an
 ·exact an
 ·exact Qz h an
theorem QA{objs objs':b6}(h:objs.ext objs'){x:AV}{d:D}(an:toD1 objs x=some d):toD1 objs' x=some d:=by
 unfold toD1 at*
 split at an
 ·split at an
  case h_2=>cases an
  rename_i aD ec
  rw [nf (fun x d ah=>FH h ah) _ _ ec]
  exact an
 ·split at an
  case h_2=>cases an
  rename_i as h7 has AX
  rw [nf (fun x d ah=>FH h ah) _ _ has,nf (fun x d ah=>FH h ah) _ _ AX]
  exact an
 ·exact FH h an
theorem aaC{objs objs':b6}(h:objs.ext objs'){x:AV}{d:D}(an:toD objs x=some d):toD objs' x=some d:=by
 unfold toD at*
 split at an
 ·split at an
  case h_2=>cases an
  rename_i aD ec
  rw [nf (fun x d ah=>QA h ah) _ _ ec]
  exact an
 ·exact QA h an
theorem aaD{T:bY}{ev:Operand→AV}{objs objs':b6}(h:objs.ext objs'){op:Op}{r:AV}(hm:memOp T ev objs op=some r):memOp T ev objs' op=some r:=by
 cases op<;>simp only [memOp,reduceCtorEq] at hm⊢
 case load t a=>
  split at hm
  case h_2=>cases hm
  split at hm
  ·exact hm
  ·split at hm
   case h_2=>cases hm
   rename_i ai;simp only [h _ _ ai];exact hm
  ·split at hm
   case h_2=>cases hm
   rename_i ai;simp only [h _ _ ai];exact hm
  ·cases hm
 case indexAddr t x ej=>
  split at hm
  ·split at hm
   case h_2=>cases hm
   split at hm
   case isFalse=>cases hm
   rename_i aq
   rw [if_pos aq]
   split at hm
   ·exact hm
   ·split at hm
    case h_2=>cases hm
    rename_i ai;simp only [h _ _ ai];exact hm
   ·exact hm
   ·cases hm
  ·exact hm
  ·cases hm
 case slice t x lo af eS=>
  cases eS with
  |some _=>simp [memOp] at hm
  |none=>
   simp only [memOp] at hm⊢
   split at hm
   case h_3=>cases hm
   case h_2=>exact hm
   split at hm
   case h_2=>cases hm
   split at hm
   case h_2=>cases hm
   rename_i n aJ
   simp only [Qy h aJ]
   split at hm
   case h_2=>cases hm
   split at hm
   case isFalse=>cases hm
   rename_i aj
   rw [if_pos aj]
   split at hm
   ·exact hm
   ·split at hm
    case h_2=>cases hm
    rename_i ai;simp only [h _ _ ai];exact hm
   ·exact hm
   ·cases hm
 case call c=>
  split at hm
  case h_2=>cases hm
  split at hm
  case h_2=>cases hm
  split at hm
  ·exact hm
  ·split at hm
   case h_2=>cases hm
   rename_i n aJ
   simp only [Qy h aJ];exact hm
  ·exact hm
  ·exact hm
  ·split at hm
   case h_2=>cases hm
   rename_i ai;simp only [h _ _ ai];exact hm
  ·cases hm
 case lookup t x k ok=>
  split at hm
  case h_2=>cases hm
  split at hm
  ·exact hm
  ·exact hm
  ·split at hm
   case h_2=>cases hm
   rename_i ai;simp only [h _ _ ai];exact hm
  ·cases hm
 case binOp op t x y uO=>
  split at hm
  case h_2=>cases hm
  split at hm
  ·split at hm
   ·rename_i aj
    rw [if_pos aj]
    split at hm
    case h_2=>cases hm
    rename_i b ak
    simp only [FG h ak];exact hm
   ·rename_i aj
    rw [if_neg aj]
    split at hm
    case isFalse=>cases hm
    rename_i ng
    rw [if_pos ng]
    split at hm
    case h_2=>cases hm
    rename_i b ak
    simp only [FG h ak];exact hm
  ·split at hm
   ·rename_i aj
    rw [if_pos aj]
    split at hm
    case h_2=>cases hm
    rename_i b ak
    simp only [FG h ak];exact hm
   ·rename_i aj
    rw [if_neg aj]
    split at hm
    case isFalse=>cases hm
    rename_i ng
    rw [if_pos ng]
    split at hm
    case h_2=>cases hm
    rename_i b ak
    simp only [FG h ak];exact hm
  ·cases hm
end Go.Am
namespace Go.Am
set_option linter.unusedVariables false
theorem QB:∀(b3:List (Key×cl)) {objs:b6} {k:Key} {o:cl},(∀p∈b3,p.1≠k)→updO (b0 objs k (some o)) b3=b0 (updO objs b3) k (some o)
 |[],objs,k,o,_=>rfl
 |(j,x)::r,objs,k,o,h=>by
  have aF:j≠k:=h (j,x) (by simp)
  simp only [updO]
  have e:b0 (b0 objs k (some o)) j (some x)=b0 (b0 objs j (some x)) k (some o):=by
   funext i
   simp only [b0]
   by_cases ad:i=j
   ·subst ad;simp [aF]
   ·by_cases ae:i=k
    ·subst ae;simp [ad]
    ·simp [ad,ae]
  rw [e]
  exact QB r (fun p aV=>h p (by simp [aV]))
theorem FI{objs objs':b6}(h:objs.ext objs'){x:AV}{r:Nat×List (List D)}(an:elemsOf objs x=some r):elemsOf objs' x=some r:=by
 unfold elemsOf at*
 split at an
 ·exact an
 ·exact an
 ·split at an
  ·rename_i ai;rw [h _ _ ai];exact an
  ·cases an
 ·split at an
  ·rename_i ai;rw [h _ _ ai];exact an
  ·cases an
 ·cases an
theorem aaE{T:bY}{ev:Operand→AV}{objs objs':b6}(h:objs.ext objs'){d k:Key}(ay:d≠k)(ai:objs k=none)(kM:objs d=none→objs' d=none){op:Op}{r:AV}{b3:List (Key×cl)}
  (he:effOp0 T ev objs d op=some (r,b3)):effOp0 T ev objs' d op=some (r,b3)∧∀p∈b3,p.1≠k:=by
 have one:∀{o:cl},∀p∈[(d,o)],p.1≠k:=by intro o p aV;simp at aV;subst aV;exact ay
 have my:∀{j:Key} {x o:cl},objs j=some x→∀p∈[(j,o)],p.1≠k:=by
  intro j x o aF p aV
  simp at aV;subst aV
  rintro rfl;rw [ai] at aF;cases aF
 cases op<;>simp only [effOp0,reduceCtorEq] at he
 case alloc t=>
  split at he<;>cases he
  rename_i i aG aq
  exact ⟨by simp only [effOp0,aG,kM aq],one⟩
 case box t x=>
  split at he<;>cases he
  rename_i cs aj aq
  exact ⟨by simp only [effOp0,aj,kM aq],one⟩
 case buildSlice t n parts=>
  split at he
  case h_2=>cases he
  rename_i e s b z aG aq
  split at he
  case h_2=>cases he
  rename_i bd hW
  split at he
  case h_2=>cases he
  rename_i es aV
  split at he
  case isFalse=>cases he
  rename_i aj
  cases he
  exact ⟨by simp only [effOp0,aG,kM aq,hW,aV];rw [if_pos aj],one⟩
 case makeSlice t l c=>
  split at he
  case h_2=>cases he
  rename_i e s b z aG aq
  split at he
  case h_2=>cases he
  rename_i bd hW
  split at he
  case h_2=>cases he
  rename_i Fu aac Fv aad ad ae
  split at he
  case isFalse=>cases he
  rename_i aj
  cases he
  exact ⟨by simp only [effOp0,aG,kM aq,hW,ad,ae];rw [if_pos aj],one⟩
 case makeMap t r=>
  split at he<;>cases he
  rename_i aq
  exact ⟨by simp only [effOp0,kM aq],one⟩
 case store t a x=>
  split at he
  case h_2=>cases he
  rename_i i cs aG aj
  split at he
  case isFalse=>cases he
  rename_i an
  split at he
  ·rename_i j off hp
   split at he
   case h_2=>cases he
   rename_i cells aF
   split at he
   case isFalse=>cases he
   rename_i a4
   cases he
   exact ⟨by simp only [effOp0,aG,aj,hp,h _ _ aF];rw [if_pos an,if_pos a4],my aF⟩
  ·rename_i j cx ej off hp
   split at he
   case h_2=>cases he
   rename_i bg es aD aF ec
   split at he
   case isFalse=>cases he
   rename_i a4
   split at he
   case h_2=>cases he
   rename_i el eu
   cases he
   exact ⟨by simp only [effOp0,aG,aj,hp,h _ _ aF,ec];rw [if_pos an,if_pos a4];simp only [eu],my aF⟩
  ·cases he
 case mapUpdate t m aaF x=>
  split at he
  case h_2=>cases he
  rename_i gO ho s b z aG
  split at he
  case h_2=>cases he
  rename_i gB ql
  split at he
  case isFalse=>cases he
  rename_i c1
  split at he
  case h_2=>cases he
  rename_i key dV Kc aQ aW bA
  split at he
  case h_2=>cases he
  rename_i es aF
  split at he
  case h_2=>cases he
  rename_i l an
  cases he
  exact ⟨by simp only [effOp0,aG,ql,aQ,aW,bA,h _ _ aF,an];rw [if_pos c1],my aF⟩
 case insert t m aaF x=>
  split at he
  case h_2=>cases he
  rename_i gO ho s b z aG
  split at he
  case h_2=>cases he
  rename_i gB ql
  split at he
  case isFalse=>cases he
  rename_i c1
  split at he
  case h_2=>cases he
  rename_i key dV Kc aQ aW bA
  split at he
  case h_2=>cases he
  rename_i es aF
  split at he
  case h_2=>cases he
  rename_i l an
  cases he
  exact ⟨by simp only [effOp0,aG,ql,aQ,aW,bA,h _ _ aF,an];rw [if_pos c1],my aF⟩
 case call c=>
  obtain ⟨callee,args,dd⟩:=c
  simp only at he
  split at he
  ·split at he
   case h_2=>cases he
   rename_i t t' s x mw jQ
   split at he
   case h_2=>cases he
   rename_i e s1 fk kk cX s2 g0 n4 aG rE aq
   split at he
   case h_2=>cases he
   rename_i bd hW
   split at he
   case h_2=>cases he
   rename_i cx xs mx
   split at he
   case isFalse=>cases he
   rename_i aj
   split at he
   ·rename_i gZ
    split at he
    case isFalse=>cases he
    rename_i ak
    cases he
    exact ⟨by simp only [effOp0,mw,jQ,aG,rE,kM aq,hW,FI h mx,gZ];rw [if_pos aj,if_pos ak],one⟩
   ·rename_i key gZ
    split at he
    case h_2=>cases he
    rename_i bg es aF
    split at he
    case isFalse=>cases he
    rename_i ak
    cases he
    refine ⟨by simp only [effOp0,mw,jQ,aG,rE,kM aq,hW,FI h mx,gZ,h _ _ aF];rw [if_pos aj,if_pos ak],?_⟩
    intro p aV
    simp at aV
    rcases aV with rfl|rfl
    ·rintro rfl;rw [ai] at aF;cases aF
    ·exact ay
   ·cases he
  ·split at he
   case h_2=>cases he
   rename_i t t' s x mw jQ
   split at he
   case h_2=>cases he
   rename_i e s1 fk kk aG
   split at he
   case h_2=>cases he
   rename_i bd hW
   split at he
   case h_2=>cases he
   rename_i cx xs mx
   split at he
   case isFalse=>cases he
   rename_i aj
   split at he
   ·rename_i key gZ
    split at he
    case h_2=>cases he
    rename_i bg es aF
    split at he
    case isFalse=>cases he
    rename_i ak
    cases he
    exact ⟨by simp only [effOp0,mw,jQ,aG,hW,FI h mx,gZ,h _ _ aF];rw [if_pos aj,if_pos ak],my aF⟩
   ·rename_i key dx i len gZ
    split at he
    case h_2=>cases he
    rename_i bg es aF
    split at he
    case isFalse=>cases he
    rename_i ak
    cases he
    exact ⟨by simp only [effOp0,mw,jQ,aG,hW,FI h mx,gZ,h _ _ aF];rw [if_pos aj,if_pos ak],my aF⟩
   ·cases he
  ·cases he
theorem aaG{T:bY}{ev:Operand→AV}{objs objs':b6}(h:objs.ext objs'){d k:Key}(ay:d≠k)(ai:objs k=none)(kM:objs d=none→objs' d=none){op:Op}{r:AV}{b3:List (Key×cl)}
  (he:fF T ev objs d op=some (r,b3)):fF T ev objs' d op=some (r,b3)∧∀p∈b3,p.1≠k:=by
 obtain ⟨⟨g1,qn⟩,e5,ak⟩:=ta he
 obtain ⟨a2,bb⟩:=aaE (objs':=objs') h ay ai kM e5
 refine ⟨by unfold fF;rw [a2];simp [ak],fun p aV=>?_⟩
 have ax:=aaj (b:=T.born d) (d:=d) (q:=(g1,qn)) p (by rw [ak];exact aV)
 obtain ⟨mz,aZ,bI⟩:=ax
 rw [←bI];exact bb mz aZ
def res(T:bY)(G:cT)(σ:St)(o:Oper):Option (AV×List (Key×cl)):=
 match pureOp T (evA G σ.aC) o.op with
 |some r=>some (r,[])
 |none=>match memOp T (evA G σ.aC) σ.objs o.op with
  |some r=>some (r,[])
  |none=>fF T (evA G σ.aC) σ.objs (o.dst.getD 9999) o.op
def St.step(σ:St)(dst:Option Tmp)(r:AV)(b3:List (Key×cl)):St:=St.put ⟨σ.aC,updO σ.objs b3⟩ dst r
theorem te{T:bY}{G:cT}{σ:St}{o:Oper}:stepA T G σ o=(res T G σ o).map fun p=>σ.step o.dst p.1 p.2:=by
 unfold stepA res St.step
 cases pureOp T (evA G σ.aC) o.op with
 |some r=>rfl
 |none=>
  cases memOp T (evA G σ.aC) σ.objs o.op with
  |some r=>rfl
  |none=>
   cases fF T (evA G σ.aC) σ.objs (o.dst.getD 9999) o.op with
   |none=>rfl
   |some p=>obtain ⟨r,b3⟩:=p;rfl
theorem aaH{G:cT}{σ:St}{dst:Option Tmp}{r:AV}{x:Operand}(h:∀d,dst=some d→x≠ .tmp d):evA G (σ.put dst r).aC x=evA G σ.aC x:=by
 cases dst with
 |none=>rfl
 |some d=>
  cases x with
  |tmp t=>
   have:t≠d:=fun e=>h d rfl (by rw [e])
   simp only [evA,St.put,cq _ _ this]
  |_=>rfl
theorem aaI{all:Array Oper}{o:Oper}{d:Tmp}(h:d∉o.looksAt all):∀x∈o.op.operands.toList,x≠ .tmp d:=by
 rintro x ah rfl
 exact h (by unfold Oper.looksAt;exact List.mem_append_left _ (List.mem_filterMap.2 ⟨_,ah,rfl⟩))
theorem aaJ{all:Array Oper}{o:Oper}{d:Tmp}(h:d∉o.looksAt all){j:Nat}{b:Bool}(bx:o.guard=some (j,b)){e:Tmp}(he:(all[j]?).bind (·.dst)=some e):e≠d:=by
 rintro rfl
 exact h (by unfold Oper.looksAt;exact List.mem_append_right _ (by simp [bx,he]))
theorem put_comm{σ:St}{x y:Option Tmp}{r s:AV}(h:∀d,x=some d→y≠some d):(σ.put x r).put y s=(σ.put y s).put x r:=by
 cases x with
 |none=>rfl
 |some d=>
  cases y with
  |none=>rfl
  |some e=>
   have cc:d≠e:=fun he=>h d rfl (by rw [he])
   simp only [St.put]
   congr 1
   funext t
   simp only [b0]
   by_cases ad:t=d
   ·subst ad;simp [cc]
   ·by_cases ae:t=e
    ·subst ae;simp [ad]
    ·simp [ad,ae]
end Go.Am
namespace Go.Am
set_option linter.unusedVariables false
def pass(x y:Oper):Bool:=
 hf x.op||hf y.op||((hC x.op||fW x.op)&&(hC y.op||fW y.op)&&!(fW x.op&&fW y.op))||
 (n7 y.op&&match y.dst with
  |some d=>decide (d<9999)
  |none=>false)
def wantA(all:Array Oper)(σ:St)(o:Oper):Option Bool:=
 match o.guard with
 |none=>some true
 |some (j,want)=>match(all[j]?).bind (·.dst) with
  |some d=>match σ.aC d with
   | .d (.val (.bool b))=>some (decide (b=want))
   | .d (.val (.tuple _))=>some false
   |_=>none
  |none=>none
section
variable{P:Program}{T:bY}{G:cT}{all:Array Oper}
theorem vOp_eq{o:Oper}{K:St→Prop}{σ:St}:vOp P T G all o K σ=match wantA all σ o with
  |some true=>vDo P T G o K σ
  |some false=>K (σ.put o.dst (.d (.val (.tuple #[]))))
  |none=>False:=by
 unfold vOp wantA
 cases bx:o.guard with
 |none=>rfl
 |some p=>
  obtain ⟨j,want⟩:=p
  simp only
  cases ay:(all[j]?).bind (·.dst) with
  |none=>rfl
  |some d=>
   simp only
   generalize σ.aC d=x
   cases x with
   |d x=>
    cases x with
    |val v=>
     cases v with
     |bool b=>by_cases h:b=want<;>simp [h]
     |_=>rfl
    |_=>rfl
   |_=>rfl
theorem mA{o:Oper}{σ:St}{dst:Option Tmp}{r:AV}(h:∀d,dst=some d→d∉o.looksAt all):wantA all (σ.put dst r) o=wantA all σ o:=by
 unfold wantA
 split
 ·rfl
 ·rename_i j want bx
  split
  ·rename_i e he
   have aB:(σ.put dst r).aC e=σ.aC e:=by
    cases dst with
    |none=>rfl
    |some d=>simp only [St.put,cq _ _ (aaJ (h d rfl) bx he)]
   rw [aB]
  ·rfl
theorem QC{o:Oper}{σ:St}{dst:Option Tmp}{r:AV}(h:∀d,dst=some d→d∉o.looksAt all):∀x∈o.op.operands.toList,evA G (σ.put dst r).aC x=evA G σ.aC x:=
 fun x ah=>aaH fun d ay=>aaI (h d ay) x ah
theorem aaK{o:Oper}{σ:St}{dst:Option Tmp}{r:AV}(h:∀d,dst=some d→d∉o.looksAt all):res T G (σ.put dst r) o=res T G σ o:=by
 have cW:=QC (G:=G) (σ:=σ) (r:=r) h
 unfold res
 rw [aax cW,aay cW,aaA cW,St.tb]
theorem aaL{σ:St}{FJ Ko:Option Tmp}{r s:AV}{b3:List (Key×cl)}(h:∀d,FJ=some d→Ko≠some d):(σ.put FJ r).step Ko s b3=(σ.step Ko s b3).put FJ r:=by
 unfold St.step
 rw [←put_comm h]
 cases FJ<;>rfl
theorem aaM{o:Oper}{σ:St}{dst:Option Tmp}{r:AV}{K:St→Prop}(h:∀d,dst=some d→d∉o.looksAt all)(cc:∀d,dst=some d→o.dst≠some d):
  vCall P G o (σ.put dst r) K=vCall P G o σ (fun aR=>K (aR.put dst r)):=by
 have cW:=QC (G:=G) (σ:=σ) (r:=r) h
 unfold vCall
 split
 ·rename_i x args dd dj
  have aQ:evA G (σ.put dst r).aC x=evA G σ.aC x:=cW x (by rw [dj];simp [Op.operands,Call.operands])
  have aW:args.toList.map (evA G (σ.put dst r).aC)=args.toList.map (evA G σ.aC):=FE fun y aT=>cW y (by rw [dj];simp [Op.operands,Call.operands];exact .inr (by simpa using aT))
  rw [aQ]
  split
  ·rename_i f pre post fG
   unfold Qv
   rw [aW,St.tb]
   simp only [put_comm cc]
  ·rfl
 ·rfl
theorem hQ{o:Oper}{σ:St}{dst:Option Tmp}{r:AV}{K:St→Prop}(h:∀d,dst=some d→d∉o.looksAt all)(cc:∀d,dst=some d→o.dst≠some d):
  vDo P T G o K (σ.put dst r)=vDo P T G o (fun aR=>K (aR.put dst r)) σ:=by
 unfold vDo
 rw [te,te,aaK h]
 cases au:res T G σ o with
 |none=>exact aaM h cc
 |some p=>simp only [Option.map_some,aaL cc]
theorem aaN{ev:Operand→AV}{objs:b6}{d:Key}{op:Op}{p:AV×List (Key×cl)}(h:fF T ev objs d op=some p)(objs':b6):pureOp T ev op=none∧memOp T ev objs' op=none:=by
 obtain ⟨q,ad,_⟩:=ta h
 clear h
 cases op<;>first|exact ⟨rfl,rfl⟩|(simp only [effOp0,reduceCtorEq] at ad;done)|skip
 case call c=>
  obtain ⟨callee,args,dd⟩:=c
  cases callee with
  |value=>exact ⟨rfl,rfl⟩
  |invoke=>exact ⟨rfl,rfl⟩
  |builtin b=>cases b<;>first|exact ⟨rfl,rfl⟩|(simp only [effOp0,reduceCtorEq] at ad;done)
theorem aaO{ev:Operand→AV}{op:Op}{r:AV}(h:pureOp T ev op=some r):hf op=true∨hC op=true:=by
 cases op
 case call c=>
  obtain ⟨callee,args,dd⟩:=c
  cases callee with
  |value=>exact absurd h (by simp [pureOp])
  |invoke=>exact absurd h (by simp [pureOp])
  |builtin b=>cases b<;>first|exact .inr rfl|exact absurd h (by simp [pureOp])
 all_goals first|exact .inl rfl|exact .inr rfl|exact absurd h (by simp [pureOp])
theorem aaP{ev:Operand→AV}{objs:b6}{op:Op}{r:AV}(h:memOp T ev objs op=some r):hf op=true∨hC op=true:=by
 cases op
 case call c=>
  obtain ⟨callee,args,dd⟩:=c
  cases callee with
  |value=>exact absurd h (by simp [memOp])
  |invoke=>exact absurd h (by simp [memOp])
  |builtin b=>cases b<;>first|exact .inr rfl|exact absurd h (by simp [memOp])
 all_goals first|exact .inl rfl|exact .inr rfl|exact absurd h (by simp [memOp])
theorem QD:∀(b3:List (Key×cl)) {objs:b6} {k:Key},updO objs b3 k=none→objs k=none∧∀p∈b3,p.1≠k
 |[],objs,k,h=>⟨h,by simp⟩
 |(j,x)::r,objs,k,h=>by
  obtain ⟨ad,ae⟩:=QD r h
  have aF:j≠k:=by rintro rfl;rw [dW] at ad;cases ad
  rw [cq _ _ (Ne.symm aF)] at ad
  exact ⟨ad,by intro p aV;rcases List.mem_cons.1 aV with rfl|aV;exact aF;exact ae p aV⟩
theorem u5{o:Oper}{σ:St}{K:St→Prop}(h:vCall P G o σ K):fW o.op=true:=by
 unfold vCall at h
 split at h
 ·rename_i x args dd dj;rw [dj];rfl
 ·cases h
theorem AZ{op:Op}(h:fW op=true):hf op=false∧hC op=false∧n7 op=false:=by
 cases op<;>first|cases h|skip
 case call c=>
  obtain ⟨callee,args,dd⟩:=c
  cases callee with
  |value=>exact ⟨rfl,rfl,rfl⟩
  |invoke=>cases h
  |builtin b=>cases h
theorem aaQ{o:Oper}{aC:Nat→AV}{objs objs':b6}(h:objs.ext objs'){r:AV}(au:res T G ⟨aC,objs⟩ o=some (r,[]))(ai:hf o.op=true∨hC o.op=true):res T G ⟨aC,objs'⟩ o=some (r,[]):=by
 unfold res at*
 simp only at*
 split at au
 ·exact au
 ·rename_i aV
  split at au
  ·rename_i atw hm
   simp only [aaD h hm]
   exact au
  ·rename_i hm
   rcases ai with ai|ai
   ·rw [(yp (T:=T) (ev:=evA G aC) (objs:=objs) (d:=o.dst.getD 9999) ai).2] at au;cases au
   ·rw [yq ai] at au;cases au
theorem FK{o:Oper}{σ:St}{r:AV}{b3:List (Key×cl)}(au:res T G σ o=some (r,b3))(ai:hf o.op=true∨hC o.op=true):b3=[]:=by
 unfold res at au
 split at au
 ·cases au;rfl
 ·split at au
  ·cases au;rfl
  ·rcases ai with ai|ai
   ·rw [(yp (T:=T) (ev:=evA G σ.aC) (objs:=σ.objs) (d:=o.dst.getD 9999) ai).2] at au;cases au
   ·rw [yq ai] at au;cases au
theorem QE{o:Oper}{aC:Nat→AV}{objs objs':b6}{p:AV×List (Key×cl)}(au:res T G ⟨aC,objs⟩ o=some p)(ai:hf o.op=true):res T G ⟨aC,objs'⟩ o=some p∧p.2=[]:=by
 unfold res at*
 simp only at*
 split at au
 ·cases au;exact ⟨rfl,rfl⟩
 ·rw [(yp (T:=T) (ev:=evA G aC) (objs:=objs) (d:=o.dst.getD 9999) ai).1,(yp (T:=T) (ev:=evA G aC) (objs:=objs) (d:=o.dst.getD 9999) ai).2] at au
  cases au
theorem rL{o:Oper}{σ:St}(ai:fW o.op=true):res T G σ o=none:=by
 unfold res
 obtain ⟨ad,ae,ax⟩:=Kn (T:=T) (ev:=evA G σ.aC) (objs:=σ.objs) (d:=o.dst.getD 9999) ai
 rw [ad,ae,ax]
theorem kn{o:Oper}{σ:St}{K:St→Prop}{r:AV}{b3:List (Key×cl)}(au:res T G σ o=some (r,b3)):vDo P T G o K σ=K (σ.step o.dst r b3):=by
 unfold vDo;rw [te,au];rfl
theorem lK{o:Oper}{σ:St}{K:St→Prop}(au:res T G σ o=none):vDo P T G o K σ=vCall P G o σ K:=by
 unfold vDo;rw [te,au];rfl
theorem A0{o:Oper}{σ:St}{K K':St→Prop}(h:vCall P G o σ K)(ai:∀r,K (σ.put o.dst r)→K' (σ.put o.dst r)):vCall P G o σ K':=by
 unfold vCall at*
 split
 ·rename_i x args dd dj
  rw [dj] at h
  simp only at h
  split
  ·rename_i f pre post fG
   simp only [fG] at h
   obtain ⟨lf,aD,dX,ad,ae,ax,aZ,bI,b9⟩:=h
   exact ⟨lf,aD,dX,ad,ae,ax,aZ,bI,fun r au=>ai _ (b9 r au)⟩
  ·rename_i fG
   simp only [fG] at h
 ·rename_i dj
  split at h
  ·rename_i x args dd e;exact absurd e (dj x args dd)
  ·exact h
theorem QF{x y:Oper}{σ:St}{K:St→Prop}(ad:∀d,x.dst=some d→d∉y.looksAt all)(ae:∀d,x.dst=some d→y.dst≠some d)(ax:∀d,y.dst=some d→d∉x.looksAt all)(aV:pass x y=true)
  (h:vDo P T G x (fun fg=>vDo P T G y K fg) σ):vDo P T G y (fun eT=>vDo P T G x K eT) σ:=by
 have fQ:∀d,y.dst=some d→x.dst≠some d:=fun d ay ah=>ae d ah ay
 obtain ⟨aC,objs⟩:=σ
 have A1:∀{o:Oper} {r:AV} {u:List (Key×cl)},St.step ⟨aC,objs⟩ o.dst r u=St.put ⟨aC,updO objs u⟩ o.dst r:=rfl
 cases iC:res T G ⟨aC,objs⟩ x with
 |none=>
  rw [lK iC] at h
  have A2:=u5 h
  obtain ⟨ko,tg,QG⟩:=AZ A2
  have aT:(hf y.op=true∨hC y.op=true)∨(n7 y.op=true∧∃d,y.dst=some d∧d<9999):=by
   simp only [pass,ko,tg,A2,Bool.false_or,Bool.true_and] at aV
   cases mB:hf y.op with
   |true=>exact .inl (.inl rfl)
   |false=>
    cases cU:hC y.op with
    |true=>exact .inl (.inr rfl)
    |false=>
     simp only [mB,cU,Bool.false_or] at aV
     cases dE:n7 y.op with
     |false=>simp [dE] at aV
     |true=>
      refine .inr ⟨rfl,?_⟩
      simp only [dE,Bool.true_and] at aV
      cases ay:y.dst with
      |none=>simp [ay] at aV
      |some d=>simp [ay] at aV;exact ⟨d,rfl,aV⟩
  have tc:fW y.op=false:=by
   cases bV:fW y.op with
   |false=>rfl
   |true=>
    obtain ⟨a,b,c⟩:=AZ bV
    rcases aT with(e|e)|⟨e,_⟩
    ·rw [a] at e;cases e
    ·rw [b] at e;cases e
    ·rw [c] at e;cases e
  unfold vCall at h
  split at h
  case h_2=>cases h
  rename_i QH args dd dj
  split at h
  case h_2=>cases h
  rename_i f pre post fG
  obtain ⟨lf,aD,dX,br,bj,bS,⟨g1,rfl⟩,dA,ed⟩:=h
  have ys:vDo P T G y K (St.put ⟨aC,objs⟩ x.dst (.d g1)):=ed g1 rfl
  rw [hQ ad ae] at ys
  cases hZ:res T G ⟨aC,objs⟩ y with
  |none=>
   rw [lK hZ] at ys
   have:=u5 ys
   rw [tc] at this;cases this
  |some p=>
   obtain ⟨n8,oY⟩:=p
   rw [kn hZ]
   have nh:b6.ext objs (updO objs oY):=by
    rcases aT with aT|⟨aT,_⟩
    ·rw [FK hZ aT];exact fun _ _ h=>h
    ·have th:fF T (evA G aC) objs (y.dst.getD 9999) y.op=some (n8,oY):=by
      unfold res at hZ
      simp only [(oX (T:=T) (ev:=evA G aC) (objs:=objs) aT).1,(oX (T:=T) (ev:=evA G aC) (objs:=objs) aT).2] at hZ
      exact hZ
     obtain ⟨bG,aJ,o,rfl⟩:=yr (objs':=fun _=>none) aT rfl th
     exact b6.FF aJ o
   show vDo P T G x K (St.step ⟨aC,objs⟩ y.dst n8 oY)
   rw [A1,hQ ax fQ,lK (rL A2)]
   unfold vCall
   rw [dj]
   simp only [fG]
   refine ⟨lf,aD,_,nf (fun x d ah=>aaC nh ah) _ _ br,bj,bS,⟨g1,rfl⟩,dA,fun r au=>?_⟩
   have QI:vDo P T G y K (St.put ⟨aC,objs⟩ x.dst (.d r)):=ed r au
   rw [hQ ad ae,kn hZ,A1,put_comm fQ] at QI
   exact QI
 |some p=>
  obtain ⟨rx,ni⟩:=p
  rw [kn iC,A1,hQ ad ae] at h
  cases hZ:res T G ⟨aC,updO objs ni⟩ y with
  |none=>
   rw [lK hZ] at h
   have tc:=u5 h
   obtain ⟨ko,tg,QG⟩:=AZ tc
   have ah:hf x.op=true∨hC x.op=true:=by
    simp only [pass,ko,tg,QG,tc,Bool.false_or,Bool.or_false,Bool.false_and,Bool.and_true,Bool.or_true] at aV
    cases mB:hf x.op with
    |true=>exact .inl rfl
    |false=>
     cases cU:hC x.op with
     |true=>exact .inr rfl
     |false=>cases bV:fW x.op<;>simp [mB,cU,bV] at aV
   have FL:=FK iC ah
   subst FL
   rw [lK (show res T G ⟨aC,objs⟩ y=none from hZ)]
   refine A0 h fun r au=>?_
   rw [hQ ax fQ,kn iC,A1,put_comm ae]
   exact au
  |some p=>
   obtain ⟨n8,oY⟩:=p
   rw [kn hZ] at h
   have ti:St.step ⟨aC,updO objs ni⟩ y.dst n8 oY=St.put ⟨aC,updO (updO objs ni) oY⟩ y.dst n8:=rfl
   rw [ti] at h
   have Kp:∀{u6:List (Key×cl)} {FM:AV},res T G ⟨aC,objs⟩ y=some (FM,u6)→(∃A3,res T G ⟨aC,updO objs u6⟩ x=some (rx,A3)∧FM=n8∧updO (updO objs u6) A3=updO (updO objs ni) oY)→
     vDo P T G y (fun eT=>vDo P T G x K eT) ⟨aC,objs⟩:=by
    rintro u6 FM aQ ⟨A3,aW,rfl,bA⟩
    rw [kn aQ]
    show vDo P T G x K (St.step ⟨aC,objs⟩ y.dst FM u6)
    rw [A1,hQ ax fQ,kn aW]
    have:St.step ⟨aC,updO objs u6⟩ x.dst rx A3=St.put ⟨aC,updO (updO objs u6) A3⟩ x.dst rx:=rfl
    rw [this,bA,put_comm ae]
    exact h
   by_cases A4:hf x.op=true∨hC x.op=true
   ·have FL:=FK iC A4
    subst FL
    refine Kp hZ ⟨[],?_,rfl,rfl⟩
    by_cases FN:hf y.op=true∨hC y.op=true
    ·rw [FK hZ FN];exact iC
    ·by_cases QJ:hf x.op=true
     ·exact (QE iC QJ).1
     ·
      have aT:n7 y.op=true:=by
       rw [not_or] at FN
       have ag:hf x.op=false:=by simpa using QJ
       have aS:hf y.op=false:=by simpa using FN.1
       have bN:hC y.op=false:=by simpa using FN.2
       simp only [pass,ag,aS,bN,Bool.false_or] at aV
       cases dE:n7 y.op with
       |true=>rfl
       |false=>
        cases bV:fW y.op with
        |false=>simp [dE,bV] at aV
        |true=>rw [rL bV] at hZ;cases hZ
      have th:fF T (evA G aC) objs (y.dst.getD 9999) y.op=some (n8,oY):=by
       have Kq:res T G ⟨aC,objs⟩ y=some (n8,oY):=hZ
       unfold res at Kq
       simp only [(oX (T:=T) (ev:=evA G aC) (objs:=objs) aT).1,(oX (T:=T) (ev:=evA G aC) (objs:=objs) aT).2] at Kq
       exact Kq
      obtain ⟨bG,aJ,o,rfl⟩:=yr (objs':=fun _=>none) aT rfl th
      exact aaQ (b6.FF aJ o) iC A4
   ·rw [not_or] at A4
    have ag:hf x.op=false:=by simpa using A4.1
    have aS:hC x.op=false:=by simpa using A4.2
    have FO:fW x.op=false:=by
     cases bV:fW x.op with
     |false=>rfl
     |true=>rw [rL bV] at iC;cases iC
    by_cases QK:hf y.op=true
    ·obtain ⟨aQ,aW⟩:=QE (objs':=objs) hZ QK
     simp only at aW
     subst aW
     exact Kp aQ ⟨ni,iC,rfl,rfl⟩
    ·have bN:hf y.op=false:=by simpa using QK
     simp only [pass,ag,aS,bN,FO,Bool.false_or,Bool.false_and] at aV
     rw [Bool.and_eq_true] at aV
     obtain ⟨aT,ay⟩:=aV
     have rK:∃d,y.dst=some d∧d<9999:=by
      cases hr:y.dst with
      |none=>simp [hr] at ay
      |some d=>simp [hr] at ay;exact ⟨d,rfl,ay⟩
     obtain ⟨d,rK,QL⟩:=rK
     have th:fF T (evA G aC) (updO objs ni) (y.dst.getD 9999) y.op=some (n8,oY):=by
      unfold res at hZ
      simp only [(oX (T:=T) (ev:=evA G aC) (objs:=updO objs ni) aT).1,(oX (T:=T) (ev:=evA G aC) (objs:=updO objs ni) aT).2] at hZ
      exact hZ
     rw [rK] at th
     simp only [Option.getD_some] at th
     obtain ⟨_,aJ,o,rfl⟩:=yr (objs':=fun _=>none) aT rfl th
     obtain ⟨Kr,FL⟩:=QD ni aJ
     obtain ⟨aaR,_,_⟩:=yr (objs':=objs) aT Kr th
     have aaS:res T G ⟨aC,objs⟩ y=some (n8,[(d,o)]):=by
      unfold res
      simp only [(oX (T:=T) (ev:=evA G aC) (objs:=objs) aT).1,(oX (T:=T) (ev:=evA G aC) (objs:=objs) aT).2,rK,Option.getD_some]
      exact aaR
     have hex:fF T (evA G aC) objs (x.dst.getD 9999) x.op=some (rx,ni):=by
      unfold res at iC
      simp only at iC
      split at iC
      ·rename_i aaT
       exact absurd (aaO aaT) (by simp [ag,aS])
      ·split at iC
       ·rename_i QM
        exact absurd (aaP QM) (by simp [ag,aS])
       ·exact iC
     have FP:x.dst.getD 9999≠d:=by
      cases FP:x.dst with
      |none=>simp only [Option.getD_none];exact fun e=>by rw [←e] at QL;exact absurd QL (Nat.lt_irrefl _)
      |some e=>simp only [Option.getD_some];rintro rfl;exact ae e FP rK
     obtain ⟨QN,cc⟩:=aaG (T:=T) (ev:=evA G aC) (b6.FF Kr o) FP Kr (fun aq=>by rw [cq _ _ FP];exact aq) hex
     refine Kp aaS ⟨ni,?_,rfl,QB ni cc⟩
     obtain ⟨cb,dx⟩:=aaN QN (b0 objs d (some o))
     show res T G ⟨aC,b0 objs d (some o)⟩ x=some (rx,ni)
     unfold res
     simp only [cb,dx]
     exact QN
theorem n9{o:Oper}{σ:St}{K K':St→Prop}(ai:∀σ,K σ→K' σ)(h:vDo P T G o K σ):vDo P T G o K' σ:=by
 unfold vDo at*
 split
 ·rename_i e;rw [e] at h;exact ai _ h
 ·rename_i e;rw [e] at h;exact A0 h fun r au=>ai _ au
theorem A5{o:Oper}{σ:St}{K K':St→Prop}(ai:∀σ,K σ→K' σ)(h:vOp P T G all o K σ):vOp P T G all o K' σ:=by
 rw [vOp_eq] at*
 split
 ·rename_i e;rw [e] at h;exact n9 ai h
 ·rename_i e;rw [e] at h;exact ai _ h
 ·rename_i e;rw [e] at h;exact h
theorem tj{o:Oper}{σ:St}{K K':St→Prop}(ai:∀objs r,K (St.put ⟨σ.aC,objs⟩ o.dst r)→K' (St.put ⟨σ.aC,objs⟩ o.dst r))(h:vDo P T G o K σ):vDo P T G o K' σ:=by
 unfold vDo at*
 rw [te] at*
 cases au:res T G σ o with
 |none=>simp only [au,Option.map_none] at h⊢;exact A0 h fun r au=>ai σ.objs r au
 |some p=>simp only [au,Option.map_some] at h⊢;exact ai _ _ h
theorem swap{x y:Oper}{σ:St}{K:St→Prop}(kN:x.apart all y=true)(aV:pass x y=true)(h:vOp P T G all x (fun fg=>vOp P T G all y K fg) σ):
  vOp P T G all y (fun eT=>vOp P T G all x K eT) σ:=by
 obtain ⟨ag,aS,bN⟩:=Oper.apart_spec kN
 have mC:∀d,y.dst=some d→x.dst≠some d:=fun d ay ah=>aS d ah ay
 rw [vOp_eq] at h
 have oa:∀(objs:b6) (r:AV),wantA all (St.put ⟨σ.aC,objs⟩ x.dst r) y=wantA all σ y:=fun objs r=>by rw [mA ag];rfl
 have oZ:∀(objs:b6) (r:AV),wantA all (St.put ⟨σ.aC,objs⟩ y.dst r) x=wantA all σ x:=fun objs r=>by rw [mA bN];rfl
 split at h
 ·rename_i ah
  rw [vOp_eq]
  have bh:vDo P T G x (fun fg=>match wantA all σ y with
    |some true=>vDo P T G y K fg
    |some false=>K (fg.put y.dst (.d (.val (.tuple #[]))))
    |none=>False) σ:=by
   refine tj (fun objs r ai=>?_) h
   rw [vOp_eq,oa] at ai
   exact ai
  cases u7:wantA all σ y with
  |none=>
   simp only [u7] at bh
   unfold vDo at bh
   split at bh
   ·exact bh
   ·unfold vCall at bh
    split at bh
    ·split at bh
     ·obtain ⟨_,_,_,_,_,_,⟨r,rfl⟩,_,q⟩:=bh
      exact q r rfl
     ·exact bh
    ·exact bh
  |some b=>
   cases b with
   |false=>
    simp only [u7] at bh
    show vOp P T G all x K (σ.put y.dst (.d (.val (.tuple #[]))))
    rw [vOp_eq]
    have:wantA all (σ.put y.dst (.d (.val (.tuple #[])))) x=some true:=by rw [mA bN];exact ah
    simp only [this]
    rw [hQ bN mC]
    exact bh
   |true=>
    simp only [u7] at bh
    have ae:=QF ag aS bN aV bh
    show vDo P T G y (fun eT=>vOp P T G all x K eT) σ
    refine tj (fun objs r ai=>?_) ae
    rw [vOp_eq,oZ,ah]
    exact ai
 ·rename_i ah
  rw [vOp_eq,mA ag] at h
  rw [vOp_eq]
  split at h
  ·rename_i aT
   try simp only [aT]
   rw [hQ ag aS] at h
   refine tj (fun objs r ai=>?_) h
   rw [vOp_eq,oZ,ah]
   exact ai
  ·rename_i aT
   try simp only [aT]
   show vOp P T G all x K (σ.put y.dst (.d (.val (.tuple #[]))))
   rw [vOp_eq,mA bN,ah]
   show K _
   rw [put_comm mC]
   exact h
  ·exact h.elim
 ·exact h.elim
theorem aaU{o:Oper}{σ:St}{K K':St→Prop}(h:vDo P T G o K σ)(ai:∀aR r,aR=σ.put o.dst (.d r)→K aR→K' aR)(bV:fW o.op=true):vDo P T G o K' σ:=by
 rw [lK (rL bV)] at h⊢
 unfold vCall at*
 split
 ·rename_i x args dd dj
  rw [dj] at h
  simp only at h
  split
  ·rename_i f pre post fG
   simp only [fG] at h
   obtain ⟨lf,aD,dX,ad,ae,ax,aZ,bI,b9⟩:=h
   exact ⟨lf,aD,dX,ad,ae,ax,aZ,bI,fun r au=>ai _ r rfl (b9 r au)⟩
  ·rename_i fG
   simp only [fG] at h
 ·rename_i dj
  split at h
  ·rename_i x args dd e;exact absurd e (dj x args dd)
  ·exact h
def b6.low(objs objs':b6):Prop:=∀k o,objs k=some o→o≠ .dead→objs' k=some o
theorem QO{objs objs':b6}(h:objs.low objs'){x:AV}{d:D}(an:toDa objs x=some d):toDa objs' x=some d:=by
 unfold toDa at*
 split at an
 ·exact an
 ·split at an
  ·rename_i ai;rw [h _ _ ai (by simp)];exact an
  ·cases an
 ·split at an
  ·rename_i ai;rw [h _ _ ai (by simp)];exact an
  ·cases an
 ·split at an
  ·rename_i ai;rw [h _ _ ai (by simp)];exact an
  ·cases an
 ·cases an
theorem FQ{objs objs':b6}(h:objs.low objs'){x:AV}{d:D}(an:toD0 objs x=some d):toD0 objs' x=some d:=by
 unfold toD0 at*
 split at an
 ·split at an
  case h_2=>cases an
  rename_i ai
  simp only [h _ _ ai (by simp)]
  split at an
  case h_2=>cases an
  rename_i cs gC
  rw [nf (fun x d ah=>QO h ah) _ _ gC]
  exact an
 ·exact an
 ·exact QO h an
theorem QP{objs objs':b6}(h:objs.low objs'){x:AV}{d:D}(an:toD1 objs x=some d):toD1 objs' x=some d:=by
 unfold toD1 at*
 split at an
 ·split at an
  case h_2=>cases an
  rename_i aD ec
  rw [nf (fun x d ah=>FQ h ah) _ _ ec]
  exact an
 ·split at an
  case h_2=>cases an
  rename_i as h7 has AX
  rw [nf (fun x d ah=>FQ h ah) _ _ has,nf (fun x d ah=>FQ h ah) _ _ AX]
  exact an
 ·exact FQ h an
theorem aaV{objs objs':b6}(h:objs.low objs'){x:AV}{d:D}(an:toD objs x=some d):toD objs' x=some d:=by
 unfold toD at*
 split at an
 ·split at an
  case h_2=>cases an
  rename_i aD ec
  rw [nf (fun x d ah=>QP h ah) _ _ ec]
  exact an
 ·exact QP h an
theorem QQ{objs objs':b6}(h:objs.low objs'){x:AV}{n:Nat}(an:lenA objs x=some n):lenA objs' x=some n:=by
 unfold lenA at*
 split at an
 ·exact an
 ·exact an
 ·split at an
  ·rename_i ai;rw [h _ _ ai (by simp)];exact an
  ·cases an
 ·exact an
 ·cases an
theorem FR{objs objs':b6}(h:objs.low objs'){x:AV}{b:Bool}(an:someS objs x=some b):someS objs' x=some b:=by
 unfold someS at*
 split at an
 ·exact an
 ·exact an
 ·split at an
  ·rename_i ai;rw [h _ _ ai (by simp)];exact an
  ·cases an
 ·cases an
theorem aaW{T:bY}{ev:Operand→AV}{objs objs':b6}(h:objs.low objs'){op:Op}{r:AV}(hm:memOp T ev objs op=some r):memOp T ev objs' op=some r:=by
 cases op<;>simp only [memOp,reduceCtorEq] at hm⊢
 case load t a=>
  split at hm
  case h_2=>cases hm
  split at hm
  ·exact hm
  ·split at hm
   case h_2=>cases hm
   rename_i ai;simp only [h _ _ ai (by simp)];exact hm
  ·split at hm
   case h_2=>cases hm
   rename_i ai;simp only [h _ _ ai (by simp)];exact hm
  ·cases hm
 case indexAddr t x ej=>
  split at hm
  ·split at hm
   case h_2=>cases hm
   split at hm
   case isFalse=>cases hm
   rename_i aq
   rw [if_pos aq]
   split at hm
   ·exact hm
   ·split at hm
    case h_2=>cases hm
    rename_i ai;simp only [h _ _ ai (by simp)];exact hm
   ·exact hm
   ·cases hm
  ·exact hm
  ·cases hm
 case slice t x lo af eS=>
  cases eS with
  |some _=>simp [memOp] at hm
  |none=>
   simp only [memOp] at hm⊢
   split at hm
   case h_3=>cases hm
   case h_2=>exact hm
   split at hm
   case h_2=>cases hm
   split at hm
   case h_2=>cases hm
   rename_i n aJ
   simp only [QQ h aJ]
   split at hm
   case h_2=>cases hm
   split at hm
   case isFalse=>cases hm
   rename_i aj
   rw [if_pos aj]
   split at hm
   ·exact hm
   ·split at hm
    case h_2=>cases hm
    rename_i ai;simp only [h _ _ ai (by simp)];exact hm
   ·exact hm
   ·cases hm
 case call c=>
  split at hm
  case h_2=>cases hm
  split at hm
  case h_2=>cases hm
  split at hm
  ·exact hm
  ·split at hm
   case h_2=>cases hm
   rename_i n aJ
   simp only [QQ h aJ];exact hm
  ·exact hm
  ·exact hm
  ·split at hm
   case h_2=>cases hm
   rename_i ai;simp only [h _ _ ai (by simp)];exact hm
  ·cases hm
 case lookup t x k ok=>
  split at hm
  case h_2=>cases hm
  split at hm
  ·exact hm
  ·exact hm
  ·split at hm
   case h_2=>cases hm
   rename_i ai;simp only [h _ _ ai (by simp)];exact hm
  ·cases hm
 case binOp op t x y uO=>
  split at hm
  case h_2=>cases hm
  split at hm
  ·split at hm
   ·rename_i aj
    rw [if_pos aj]
    split at hm
    case h_2=>cases hm
    rename_i b ak
    simp only [FR h ak];exact hm
   ·rename_i aj
    rw [if_neg aj]
    split at hm
    case isFalse=>cases hm
    rename_i ng
    rw [if_pos ng]
    split at hm
    case h_2=>cases hm
    rename_i b ak
    simp only [FR h ak];exact hm
  ·split at hm
   ·rename_i aj
    rw [if_pos aj]
    split at hm
    case h_2=>cases hm
    rename_i b ak
    simp only [FR h ak];exact hm
   ·rename_i aj
    rw [if_neg aj]
    split at hm
    case isFalse=>cases hm
    rename_i ng
    rw [if_pos ng]
    split at hm
    case h_2=>cases hm
    rename_i b ak
    simp only [FR h ak];exact hm
  ·cases hm
def bornX(T:bY)(x:Oper):Bool:=match x.op with
 | .buildSlice _ _ _=>T.born (x.dst.getD 9999)
 |_=>false
def u9(T:bY)(x y:Oper):Bool:=pass x y||(fW x.op&&fW y.op)||(bornX T x&&(fW y.op||hC y.op))
theorem aaX{x:Oper}{σ:St}(ak:bornX T x=true){p:AV×List (Key×cl)}(h:res T G σ x=some p):σ.objs (x.dst.getD 9999)=none∧p.2=[(x.dst.getD 9999,.dead)]:=by
 unfold bornX at ak
 split at ak
 case h_2=>cases ak
 rename_i t n parts dj
 have ai:n7 x.op=true:=by rw [dj];rfl
 obtain ⟨aQ,aW⟩:=oX (T:=T) (ev:=evA G σ.aC) (objs:=σ.objs) ai
 unfold res at h
 rw [aQ,aW] at h
 obtain ⟨q,ad,ae⟩:=ta h
 rw [dj] at ad
 simp only [effOp0] at ad
 split at ad
 case h_2=>cases ad
 rename_i e s b z aG aq
 split at ad
 case h_2=>cases ad
 split at ad
 case h_2=>cases ad
 split at ad
 case isFalse=>cases ad
 cases ad
 refine ⟨aq,?_⟩
 rw [←ae]
 simp [bornR,ak]
theorem aaY{x y:Oper}{σ:St}{K:St→Prop}(ad:∀d,x.dst=some d→d∉y.looksAt all)(ae:∀d,x.dst=some d→y.dst≠some d)(ax:∀d,y.dst=some d→d∉x.looksAt all)(FO:fW x.op=true)(aaZ:fW y.op=true∨False)
  (h:vDo P T G x (fun fg=>vDo P T G y K fg) σ):vDo P T G y (fun eT=>vDo P T G x K eT) σ:=by
 have fQ:∀d,y.dst=some d→x.dst≠some d:=fun d ay ah=>ae d ah ay
 have FT:fW y.op=true:=aaZ.resolve_right id
 rw [lK (rL FO)] at h
 unfold vCall at h
 split at h
 case h_2=>cases h
 rename_i QH args dd dj
 split at h
 case h_2=>cases h
 rename_i f pre post fG
 obtain ⟨lf,aD,dX,br,bj,bS,⟨g1,rfl⟩,dA,ed⟩:=h
 have ys:vDo P T G y K (St.put σ x.dst (.d g1)):=ed g1 rfl
 rw [hQ ad ae] at ys
 refine aaU ys (fun aR r he ai=>?_) FT
 subst he
 rw [hQ ax fQ,lK (rL FO)]
 unfold vCall
 rw [dj]
 simp only [fG]
 refine ⟨lf,aD,_,br,bj,bS,⟨g1,rfl⟩,dA,fun r au=>?_⟩
 subst au
 rw [put_comm ae]
 exact ai
theorem aa0{x y:Oper}{σ:St}{K:St→Prop}(ad:∀d,x.dst=some d→d∉y.looksAt all)(ae:∀d,x.dst=some d→y.dst≠some d)(ax:∀d,y.dst=some d→d∉x.looksAt all)(FU:bornX T x=true)(Ks:fW y.op=true∨hC y.op=true)
  (h:vDo P T G x (fun fg=>vDo P T G y K fg) σ):vDo P T G y (fun eT=>vDo P T G x K eT) σ:=by
 have fQ:∀d,y.dst=some d→x.dst≠some d:=fun d ay ah=>ae d ah ay
 cases iC:res T G σ x with
 |none=>
  rw [lK iC] at h
  have:=u5 h
  unfold bornX at FU
  split at FU
  ·rename_i dj;rw [dj] at this;cases this
  ·cases FU
 |some p=>
  obtain ⟨rx,b3⟩:=p
  obtain ⟨aJ,hu⟩:=aaX FU iC
  simp only at hu
  subst hu
  rw [kn iC] at h
  have aT:vDo P T G y K (St.put ⟨σ.aC,updO σ.objs [(x.dst.getD 9999,.dead)]⟩ x.dst rx):=h
  rw [hQ ad ae] at aT
  have FV:b6.low (updO σ.objs [(x.dst.getD 9999,.dead)]) σ.objs:=by
   intro k o ai az
   simp only [updO] at ai
   by_cases e:k=x.dst.getD 9999
   ·subst e;rw [dW] at ai;cases ai;exact absurd rfl az
   ·rwa [cq _ _ e] at ai
  rcases Ks with FT|QR
  case inr=>
   have tc:fW y.op=false:=by
    cases bV:fW y.op with
    |false=>rfl
    |true=>have:=(AZ bV).2.1;rw [QR] at this;cases this
   have key:∀p,res T G ⟨σ.aC,updO σ.objs [(x.dst.getD 9999,.dead)]⟩ y=some p→p.2=[]∧res T G σ y=some p:=by
    intro p aV
    have he:∀objs d,fF T (evA G σ.aC) objs d y.op=none:=fun objs d=>yq QR
    unfold res at aV⊢
    cases QS:pureOp T (evA G σ.aC) y.op with
    |some r=>simp only [QS] at aV⊢;cases aV;exact ⟨rfl,rfl⟩
    |none=>
     simp only [QS] at aV⊢
     cases A6:memOp T (evA G σ.aC) (updO σ.objs [(x.dst.getD 9999,.dead)]) y.op with
     |none=>simp only [A6,he] at aV;cases aV
     |some r=>
      simp only [A6] at aV
      cases aV
      rw [aaW FV A6]
      exact ⟨rfl,rfl⟩
   cases hZ:res T G ⟨σ.aC,updO σ.objs [(x.dst.getD 9999,.dead)]⟩ y with
   |none=>
    rw [lK hZ] at aT
    have:=u5 aT
    rw [tc] at this;cases this
   |some p=>
    obtain ⟨n8,oY⟩:=p
    obtain ⟨cb,dx⟩:=key _ hZ
    simp only at cb
    subst cb
    rw [kn hZ] at aT
    rw [kn dx]
    show vDo P T G x K (St.put σ y.dst n8)
    rw [hQ ax fQ,kn iC]
    unfold St.step
    rw [put_comm ae]
    exact aT
  rw [lK (rL FT)] at aT
  rw [lK (rL FT)]
  unfold vCall at aT⊢
  split at aT
  case h_2=>cases aT
  rename_i QH args dd dj
  split at aT
  case h_2=>cases aT
  rename_i f pre post fG
  obtain ⟨lf,aD,dX,br,bj,bS,⟨g1,rfl⟩,dA,ed⟩:=aT
  simp only [dj,fG]
  refine ⟨lf,aD,_,nf (fun x d ah=>aaV FV ah) _ _ br,bj,bS,⟨g1,rfl⟩,dA,fun r au=>?_⟩
  subst au
  have:=ed r rfl
  rw [hQ ax fQ,kn iC]
  unfold St.step
  rw [put_comm ae]
  exact this
theorem aa1{x y:Oper}{σ:St}{K:St→Prop}(ad:∀d,x.dst=some d→d∉y.looksAt all)(ae:∀d,x.dst=some d→y.dst≠some d)(ax:∀d,y.dst=some d→d∉x.looksAt all)(aV:u9 T x y=true)
  (h:vDo P T G x (fun fg=>vDo P T G y K fg) σ):vDo P T G y (fun eT=>vDo P T G x K eT) σ:=by
 unfold u9 at aV
 rw [Bool.or_eq_true,Bool.or_eq_true] at aV
 rcases aV with(aV|aV)|aV
 ·exact QF ad ae ax aV h
 ·rw [Bool.and_eq_true] at aV
  exact aaY ad ae ax aV.1 (.inl aV.2) h
 ·rw [Bool.and_eq_true,Bool.or_eq_true] at aV
  exact aa0 ad ae ax aV.1 aV.2 h
theorem swapT{x y:Oper}{σ:St}{K:St→Prop}(kN:x.apart all y=true)(aV:u9 T x y=true)(h:vOp P T G all x (fun fg=>vOp P T G all y K fg) σ):
  vOp P T G all y (fun eT=>vOp P T G all x K eT) σ:=by
 obtain ⟨ag,aS,bN⟩:=Oper.apart_spec kN
 have mC:∀d,y.dst=some d→x.dst≠some d:=fun d ay ah=>aS d ah ay
 rw [vOp_eq] at h
 have oa:∀(objs:b6) (r:AV),wantA all (St.put ⟨σ.aC,objs⟩ x.dst r) y=wantA all σ y:=fun objs r=>by rw [mA ag];rfl
 have oZ:∀(objs:b6) (r:AV),wantA all (St.put ⟨σ.aC,objs⟩ y.dst r) x=wantA all σ x:=fun objs r=>by rw [mA bN];rfl
 split at h
 ·rename_i ah
  rw [vOp_eq]
  have bh:vDo P T G x (fun fg=>match wantA all σ y with
    |some true=>vDo P T G y K fg
    |some false=>K (fg.put y.dst (.d (.val (.tuple #[]))))
    |none=>False) σ:=by
   refine tj (fun objs r ai=>?_) h
   rw [vOp_eq,oa] at ai
   exact ai
  cases u7:wantA all σ y with
  |none=>
   simp only [u7] at bh
   unfold vDo at bh
   split at bh
   ·exact bh
   ·unfold vCall at bh
    split at bh
    ·split at bh
     ·obtain ⟨_,_,_,_,_,_,⟨r,rfl⟩,_,q⟩:=bh
      exact q r rfl
     ·exact bh
    ·exact bh
  |some b=>
   cases b with
   |false=>
    simp only [u7] at bh
    show vOp P T G all x K (σ.put y.dst (.d (.val (.tuple #[]))))
    rw [vOp_eq]
    have:wantA all (σ.put y.dst (.d (.val (.tuple #[])))) x=some true:=by rw [mA bN];exact ah
    simp only [this]
    rw [hQ bN mC]
    exact bh
   |true=>
    simp only [u7] at bh
    have ae:=aa1 ag aS bN aV bh
    show vDo P T G y (fun eT=>vOp P T G all x K eT) σ
    refine tj (fun objs r ai=>?_) ae
    rw [vOp_eq,oZ,ah]
    exact ai
 ·rename_i ah
  rw [vOp_eq,mA ag] at h
  rw [vOp_eq]
  split at h
  ·rename_i aT
   try simp only [aT]
   rw [hQ ag aS] at h
   refine tj (fun objs r ai=>?_) h
   rw [vOp_eq,oZ,ah]
   exact ai
  ·rename_i aT
   try simp only [aT]
   show vOp P T G all x K (σ.put y.dst (.d (.val (.tuple #[]))))
   rw [vOp_eq,mA bN,ah]
   show K _
   rw [put_comm mC]
   exact h
  ·exact h.elim
 ·exact h.elim
def amOp(P:Program)(T:bY)(G:cT)(all:Array Oper)(i:Nat)(K:St→Prop)(σ:St):Prop:=
 match all[i]? with
 |none=>K σ
 |some o=>vOp P T G all o K σ
theorem tk{i:Nat}{σ:St}{K K':St→Prop}(ai:∀σ,K σ→K' σ)(h:amOp P T G all i K σ):amOp P T G all i K' σ:=by
 unfold amOp at*
 split
 ·rename_i e;simp only [e] at h;exact ai _ h
 ·rename_i o e;simp only [e] at h;exact A5 ai h
def hD(P:Program)(T:bY)(G:cT)(all:Array Oper)(K:St→Prop):Nat→Array Bool→St→Prop
 |0,listed,σ=>Region.ready .any all listed=[]∧K σ
 |fuel+1,listed,σ=>
  (Region.ready .any all listed=[]→K σ)∧∀i∈Region.ready .any all listed,amOp P T G all i (hD P T G all K fuel (listed.setIfInBounds i true)) σ
theorem Kt{K:St→Prop}{i:Nat}{eg:Oper}(af:all[i]?=some eg){B:List Nat}(fX:∀j cC,j∈B→all[j]?=some cC→∃e∈cC.after,Region.binds .any e=true∧(e.on=i∨e.on∈B)):∀(fuel:Nat) (listed:Array Bool) (σ:St),
  (∀j,j∈B→listed.getD j true=false)→
  (∀j cC,all[j]?=some cC→j≠i→listed.getD j true=false→j∉B→eg.apart all cC=true∧u9 T eg cC=true)→
  i∈Region.ready .any all listed→(¬∃aR,K aR)∨True→amOp P T G all i (hD P T G all K fuel (listed.setIfInBounds i true)) σ→hD P T G all K (fuel+1) listed σ:=by
 intro fuel
 induction fuel with
 |zero=>
  intro listed σ o0 mD au _ H
  refine ⟨fun h=>(by rw [h] at au;cases au),fun j aF=>?_⟩
  by_cases hE:j=i
  ·subst hE;exact H
  ·have hm:=ready_mono aF hE
   exfalso
   have key:Region.ready .any all (listed.setIfInBounds i true)=[]:=by
    unfold amOp at H
    simp only [af] at H
    rw [vOp_eq] at H
    split at H
    ·unfold vDo at H
     split at H
     ·exact H.1
     ·unfold vCall at H
      split at H
      ·split at H
       ·obtain ⟨_,_,_,_,_,_,⟨r,lL⟩,_,q⟩:=H
        exact (q r (by rw [lL])).1
       ·exact H.elim
      ·exact H.elim
    ·exact H.1
    ·exact H.elim
   rw [key] at hm;cases hm
 |succ fuel ih=>
  intro listed σ o0 mD au _ H
  refine ⟨fun h=>(by rw [h] at au;cases au),fun j aF=>?_⟩
  by_cases hE:j=i
  ·subst hE;exact H
  ·obtain ⟨tl,cC,hF,fp⟩:=mem_ready.1 aF
   have rD:∀k,listed.getD k true=false→listed[k]?.getD false=true→False:=fun k aq ad=>by
    rcases Nat.lt_or_ge k listed.size with bh|bh
    ·simp [bh] at aq ad;rw [aq] at ad;cases ad
    ·simp [Array.getElem?_eq_none bh] at ad
   have tn:j∉B:=fun A7=>by
    obtain ⟨e,he,ak,kO⟩:=fX j cC A7 hF
    have ad:=fp e he ak
    rcases kO with kO|kO
    ·rw [kO] at ad
     exact rD i (mem_ready.1 au).1 (by simpa using ad)
    ·exact rD _ (o0 _ kO) (by simpa using ad)
   obtain ⟨dT,dw⟩:=mD j cC hF hE tl tn
   have ad:amOp P T G all i (fun fg=>amOp P T G all j (hD P T G all K fuel ((listed.setIfInBounds i true).setIfInBounds j true)) fg) σ:=tk (fun fg rM=>rM.2 j (ready_mono aF hE)) H
   have ae:amOp P T G all j (fun eT=>amOp P T G all i (hD P T G all K fuel ((listed.setIfInBounds i true).setIfInBounds j true)) eT) σ:=by
    unfold amOp at ad⊢
    simp only [af,hF] at ad⊢
    exact swapT dT dw ad
   have A8:∀k ok,all[k]?=some ok→k≠i→(listed.setIfInBounds j true).getD k true=false→
     k∉B→eg.apart all ok=true∧u9 T eg ok=true:=fun k ok ai o1 mE gP=>by
    refine mD k ok ai o1 ?_ gP
    by_cases fe:j=k
    ·subst fe;exact tl
    ·rw [getD_set_ne true fe] at mE;exact mE
   refine tk (fun eT ax=>ih (listed.setIfInBounds j true) eT (fun k ai=>by
    have fe:j≠k:=by rintro rfl;exact tn ai
    rw [getD_set_ne true fe];exact o0 k ai) A8 (ready_mono au (Ne.symm hE)) (.inr trivial) ?_) ae
   rw [Array.setIfInBounds_comm _ _ hE]
   exact ax
theorem aa2{K:St→Prop}{i:Nat}{eg:Oper}(af:all[i]?=some eg){B:List Nat}(fX:∀j cC,j∈B→all[j]?=some cC→∃e∈cC.after,Region.binds .any e=true∧(e.on=i∨e.on∈B))(fuel:Nat)(listed:Array Bool)(σ:St)
  (aq:∀j,j∈B→listed.getD j true=false)
  (a4:∀j cC,all[j]?=some cC→j≠i→listed.getD j true=false→j∉B→eg.apart all cC=true∧pass eg cC=true)
  (au:i∈Region.ready .any all listed) (ah:(¬∃aR,K aR)∨True) (h:amOp P T G all i (hD P T G all K fuel (listed.setIfInBounds i true)) σ):hD P T G all K (fuel+1) listed σ:=
 Kt af fX fuel listed σ aq (fun j cC a b c d=>⟨(a4 j cC a b c d).1,by unfold u9;rw [(a4 j cC a b c d).2];rfl⟩) au ah h
def waits(all:Array Oper)(i:Nat):List Nat:=
 (List.range all.size).foldl (fun acc j=>match all[j]? with
  |some cC=>if cC.after.any (fun e=>Region.binds .any e&&(e.on==i||acc.contains e.on)) then acc++[j] else acc
  |none=>acc) []
def FW(p:Oper→Oper→Bool)(all:Array Oper)(listed:Array Bool)(i:Nat)(B:List Nat):Bool:=
 match all[i]? with
 |none=>false
 |some eg=>(B.all fun j=>!listed.getD j true&&match all[j]? with
   |some cC=>cC.after.any fun e=>Region.binds .any e&&(e.on==i||B.contains e.on)
   |none=>false)&&(List.range all.size).all fun j=>j==i||listed.getD j true||B.contains j||match all[j]? with
   |some cC=>eg.apart all cC&&p eg cC
   |none=>true
def QT(all:Array Oper)(listed:Array Bool)(i:Nat)(B:List Nat):Bool:=FW pass all listed i B
def aa3(all:Array Oper)(listed:Array Bool)(i:Nat):Bool:=QT all listed i (waits all i)
def QU(T:bY)(all:Array Oper)(listed:Array Bool)(i:Nat):Bool:=FW (u9 T) all listed i (waits all i)
theorem Ku{p:Oper→Oper→Bool}{i:Nat}{eg:Oper}{listed:Array Bool}(af:all[i]?=some eg){B:List Nat}(h:FW p all listed i B=true):
  (∀j cC,j∈B→all[j]?=some cC→∃e∈cC.after,Region.binds .any e=true∧(e.on=i∨e.on∈B))∧(∀j,j∈B→listed.getD j true=false)∧
  ∀j cC,all[j]?=some cC→j≠i→listed.getD j true=false→j∉B→eg.apart all cC=true∧p eg cC=true:=by
 simp only [FW,af,Bool.and_eq_true,List.all_eq_true,List.mem_range] at h
 refine ⟨fun j cC aF hF=>?_,fun j aF=>by simpa using(h.1 j aF).1,fun j cC hF cc mE gP=>?_⟩
 ·have ad:=(h.1 j aF).2
  simp only [hF] at ad
  obtain ⟨e,he,ak⟩:=Array.any_eq_true'.1 ad
  simp only [Bool.and_eq_true,Bool.or_eq_true,beq_iff_eq,List.contains_iff_mem] at ak
  exact ⟨e,he,ak.1,ak.2⟩
 ·have ad:=h.2 j (Array.getElem?_eq_some_iff.1 hF).1
  simp only [hF,Bool.or_eq_true,beq_iff_eq,cc,false_or,mE,Bool.false_eq_true,Bool.and_eq_true,List.contains_iff_mem,gP] at ad
  exact ad
theorem aa4{i:Nat}{eg:Oper}{listed:Array Bool}(af:all[i]?=some eg){B:List Nat}(h:QT all listed i B=true):
  (∀j cC,j∈B→all[j]?=some cC→∃e∈cC.after,Region.binds .any e=true∧(e.on=i∨e.on∈B))∧(∀j,j∈B→listed.getD j true=false)∧
  ∀j cC,all[j]?=some cC→j≠i→listed.getD j true=false→j∉B→eg.apart all cC=true∧pass eg cC=true:=Ku af h
def ordFrom(T:bY)(all:Array Oper):List Nat→Array Bool→Bool
 |[],listed=>(Region.ready .any all listed).isEmpty
 |i::r,listed=>(Region.ready .any all listed).contains i&&QU T all listed i&&ordFrom T all r (listed.setIfInBounds i true)
def vOrd(P:Program)(T:bY)(G:cT)(all:Array Oper):List Nat→(St→Prop)→St→Prop
 |[],K,σ=>K σ
 |i::r,K,σ=>match all[i]? with
  |some o=>vOp P T G all o (vOrd P T G all r K) σ
  |none=>False
theorem QV{K:St→Prop}:∀(ord:List Nat) (listed:Array Bool) (σ:St),ordFrom T all ord listed=true→vOrd P T G all ord K σ→hD P T G all K ord.length listed σ
 |[],listed,σ,fX,h=>⟨by simpa [ordFrom] using fX,h⟩
 |i::r,listed,σ,fX,h=>by
  simp only [ordFrom,Bool.and_eq_true] at fX
  obtain ⟨⟨au,a4⟩,rN⟩:=fX
  unfold vOrd at h
  split at h
  case h_2=>cases h
  rename_i o af
  obtain ⟨br,bj,bS⟩:=Ku af a4
  refine Kt af br r.length listed σ bj bS (by simpa using au) (.inr trivial) ?_
  unfold amOp
  simp only [af]
  exact A5 (fun aR rM=>QV r _ aR rN rM) h
theorem Kv{m:Mem}{fr:eE}{N:Nat}(a0:dn P T){K:St→Prop}{Q:Exit→Act→World→Prop}(fx:∀o∈all,∀d,o.dst=some d→d<N):∀(fuel:Nat) (listed:Array Bool) (m:Mem) (ρ:cK) (σ:St) (a:Act) (w:World),
  iz G m→Den m fr ρ σ a w→N≤a.tmps.size→a.defers=[]→hD P T G all K fuel listed σ→(∀cr w',hq N m fr ρ σ K cr w'→Q .normal cr w')→wpAny P .any all Q fuel listed a w
 |0,listed,m,ρ,σ,a,w,cy,h,bQ,fU,aM,gF=>⟨aM.1,gF a w ⟨σ,m,ρ,aM.2,Mem.le_refl m,h,bQ,fU,jx.refl _ _⟩⟩
 |fuel+1,listed,m,ρ,σ,a,w,cy,h,bQ,fU,aM,gF=>by
  refine ⟨fun aq=>gF a w ⟨σ,m,ρ,aM.1 aq,Mem.le_refl m,h,bQ,fU,jx.refl _ _⟩,fun i af=>?_⟩
  have ad:=aM.2 i af
  obtain ⟨_,o,az,_⟩:=mem_ready.1 af
  unfold amOp at ad
  simp only [az] at ad
  refine wpOp_mono ?_ (vOp_ok a0 cy h bQ fU az (fx o (Array.mem_of_getElem? az)) ad)
  rintro cr w' ⟨aR,ca,cn,br,bj,bS,db,dA,ed⟩
  refine Kv (m:=m) a0 fx fuel _ ca cn aR cr w' (cy.mono bj) bS db dA br ?_
  rintro nj iX ⟨o2,vb,vc,dT,dw,gA,o3,vd,ve⟩
  exact gF nj iX ⟨o2,vb,vc,dT,Mem.le_trans bj dw,gA,o3,vd,ed.trans ve⟩
end
end Go.Am
namespace Go.Am
set_option linter.unusedVariables false
def fR(σ τ:St):Prop:=∀m fr ρ a w,Den m fr ρ σ a w→∃ca cn,m.le ca∧Den ca fr cn τ a w∧jx σ ρ τ cn
theorem fR.refl(σ:St):fR σ σ:=fun m fr ρ a w h=>⟨m,ρ,Mem.le_refl m,h,jx.refl _ _⟩
theorem fR.trans{σ τ vf:St}(h:fR σ τ)(bh:fR τ vf):fR σ vf:=fun m fr ρ a w cu=>
 let⟨eU,ld,ad,ae,ax⟩:=h m fr ρ a w cu
 let⟨iY,jy,aZ,bI,b9⟩:=bh eU fr ld a w ae
 ⟨iY,jy,Mem.le_trans ad aZ,bI,ax.trans b9⟩
def fS(P:Program)(T:bY)(G:cT)(N:Nat)(c:Code)(σ:St)(Q:Exit→St→Prop):Prop:=
 ∀m fr ρ a w,iz G m→Den m fr ρ σ a w→N≤a.tmps.size→a.defers=[]→c.wp P (fun e cr w'=>hq N m fr ρ σ (Q e) cr w') a w
def thenQ(K:St→Prop)(Q:Exit→St→Prop):Exit→St→Prop
 | .normal,σ=>K σ
 |e,σ=>Q e σ
def inBlockQ(id:Nat)(Q:Exit→St→Prop):Exit→St→Prop
 | .exit rO,σ=>if rO=id then Q .normal σ else Q (.exit rO) σ
 |e,σ=>Q e σ
section
variable{P:Program}{T:bY}{G:cT}{N:Nat}{σ:St}{Q:Exit→St→Prop}
theorem hq.mono{m:Mem}{fr:eE}{ρ:cK}{K K':St→Prop}(ai:∀σ,K σ→K' σ){a:Act}{w:World}(h:hq N m fr ρ σ K a w):hq N m fr ρ σ K' a w:=
 let⟨aR,ca,cn,ad,ae⟩:=h;⟨aR,ca,cn,ai _ ad,ae⟩
theorem yt{c:Code}{QW:Exit→St→Prop}(h:fS P T G N c σ Q)(bL:∀e σ,Q e σ→QW e σ):fS P T G N c σ QW:=
 fun m fr ρ a w cy cu bQ ay=>wp_mono (h m fr ρ a w cy cu bQ ay) fun e cr w' au=>au.mono (bL e)
theorem aa5(h:Q .normal σ):fS P T G N .skip σ Q:=fun m fr ρ a w cy cu bQ ay=>wp_skip ⟨σ,m,ρ,h,Mem.le_refl m,cu,bQ,ay,jx.refl _ _⟩
theorem aa6{l:Nat}(h:Q .normal σ):fS P T G N (.label l) σ Q:=fun m fr ρ a w cy cu bQ ay=>wp_label ⟨σ,m,ρ,h,Mem.le_refl m,cu,bQ,ay,jx.refl _ _⟩
theorem aa7{id:Nat}(h:Q (.exit id) σ):fS P T G N (.exit id) σ Q:=fun m fr ρ a w cy cu bQ ay=>wp_exit ⟨σ,m,ρ,h,Mem.le_refl m,cu,bQ,ay,jx.refl _ _⟩
theorem aa8(h:Q .ret σ):fS P T G N .ret σ Q:=fun m fr ρ a w cy cu bQ ay=>wp_ret ⟨σ,m,ρ,h,Mem.le_refl m,cu,bQ,ay,jx.refl _ _⟩
theorem hq.trans{m eU:Mem}{fr:eE}{ρ ld:cK}{fg:St}{K:St→Prop}{a:Act}{w:World}(hm:m.le eU)(ai:jx σ ρ fg ld)(h:hq N eU fr ld fg K a w):hq N m fr ρ σ K a w:=
 let⟨aR,ca,cn,ad,ae,ax,aZ,bI,b9⟩:=h;⟨aR,ca,cn,ad,Mem.le_trans hm ae,ax,aZ,bI,ai.trans b9⟩
theorem aa9{x y:Code}(h:fS P T G N x σ (thenQ (fun aR=>fS P T G N y aR Q) Q)):fS P T G N (.seq x y) σ Q:=by
 intro m fr ρ a w cy cu bQ ay
 refine wp_seq (wp_mono (h m fr ρ a w cy cu bQ ay) ?_)
 rintro e cr w' ⟨aR,ca,cn,ad,ae,ax,aZ,bI,b9⟩
 cases e with
 |normal=>exact wp_mono (ad ca fr cn cr w' (cy.mono ae) ax aZ bI) fun e nj iX au=>au.trans ae b9
 |exit id=>exact ⟨aR,ca,cn,ad,ae,ax,aZ,bI,b9⟩
 |goto l=>exact ⟨aR,ca,cn,ad,ae,ax,aZ,bI,b9⟩
 |ret=>exact ⟨aR,ca,cn,ad,ae,ax,aZ,bI,b9⟩
 |panic c=>exact ⟨aR,ca,cn,ad,ae,ax,aZ,bI,b9⟩
 |outgrown=>exact ⟨aR,ca,cn,ad,ae,ax,aZ,bI,b9⟩
def aba(Q:Exit→St→Prop):Exit→St→Prop
 | .goto _,_=>False
 |e,σ=>Q e σ
theorem abb{c:Code}(h:fS P T G N c σ (aba Q)):fS P T G N (.scope c) σ Q:=by
 intro m fr ρ a w cy cu bQ ay
 refine wp_scope_straight (wp_mono (h m fr ρ a w cy cu bQ ay) ?_)
 rintro e cr w' ⟨aR,ca,cn,ad,ae,ax,aZ,bI,b9⟩
 cases e with
 |goto l=>exact ad.elim
 |normal=>exact ⟨aR,ca,cn,ad,ae,ax,aZ,bI,b9⟩
 |exit id=>exact ⟨aR,ca,cn,ad,ae,ax,aZ,bI,b9⟩
 |ret=>exact ⟨aR,ca,cn,ad,ae,ax,aZ,bI,b9⟩
 |panic c=>exact ⟨aR,ca,cn,ad,ae,ax,aZ,bI,b9⟩
 |outgrown=>exact ⟨aR,ca,cn,ad,ae,ax,aZ,bI,b9⟩
theorem FX{c:Operand}{x y:Code}{b:Bool}(aj:evA G σ.aC c= .d (.val (.bool b)))(h:if b=true then fS P T G N x σ Q else fS P T G N y σ Q):fS P T G N (.cond c x y) σ Q:=by
 intro m fr ρ a w cy cu bQ ay
 have aM:=AD (a:=a) cy cu.aC c
 rw [aj] at aM
 refine wp_cond aM.gp ?_
 cases b
 ·exact h m fr ρ a w cy cu bQ ay
 ·exact h m fr ρ a w cy cu bQ ay
theorem abc{id:Nat}{c:Code}(h:fS P T G N c σ (inBlockQ id Q)):fS P T G N (.block id c) σ Q:=by
 intro m fr ρ a w cy cu bQ ay
 refine wp_block (wp_mono (h m fr ρ a w cy cu bQ ay) ?_)
 intro e cr w' au
 cases e with
 |exit rO=>
  simp only [Exit.inBlock]
  by_cases af:rO=id
  ·rw [if_pos af]
   exact au.mono fun σ bL=>by simp only [inBlockQ,af,if_true] at bL;exact bL
  ·rw [if_neg af]
   exact au.mono fun σ bL=>by simp only [inBlockQ,af,if_false] at bL;exact bL
 |normal=>exact au
 |goto l=>exact au
 |ret=>exact au
 |panic c=>exact au
 |outgrown=>exact au
theorem Kw{τ:St}{c:Code}(he:fR σ τ)(h:fS P T G N c τ Q):fS P T G N c σ Q:=by
 intro m fr ρ a w cy cu bQ ay
 obtain ⟨ca,cn,ad,ae,ax⟩:=he m fr ρ a w cu
 exact wp_mono (h ca fr cn a w (cy.mono ad) ae bQ ay) fun e cr w' au=>au.trans ad ax
def dstOk(N:Nat)(ops:Array Oper):Bool:=ops.toList.all fun o=>match o.dst with
 |some d=>decide (d<N)
 |none=>true
theorem tp{ops:Array Oper}(h:dstOk N ops=true):∀o∈ops,∀d,o.dst=some d→d<N:=by
 intro o az d ay
 have:=List.all_eq_true.1 h o (by simpa using az)
 simp only [ay] at this
 simpa using this
theorem Den.drew{m:Mem}{fr:eE}{ρ:cK}{a:Act}{w:World}(h:Den m fr ρ σ a w)(n:Nat):Den m fr ρ σ a {w with drawn:=n}:=by
 refine ⟨h.mem,⟨h.frame.nZ,h.frame.quiet.same rfl rfl rfl⟩,h.apart,h.one,h.aC,?_,h.own,h.sep⟩
 intro k o ai
 exact (h.objs k o ai).mono (Mem.le_refl m) (fun _ hu=>⟨hu,rfl⟩) (fun b _ _=>rfl)
theorem abd(a0:dn P T)(hm:P.follows .mixedOrders=true){id:Nat}{ops:Array Oper}(bQ:dstOk N ops=true)(ord:List Nat)(hlen:ord.length=ops.size)(yu:ordFrom T ops ord (Array.replicate ops.size false)=true)
  (h:vOrd P T G ops ord (Q .normal) σ):fS P T G N (.region id ops true) σ Q:=by
 intro m fr ρ a w cy cu lM ay
 refine wp_region_any hm ?_
 have ad:=QV ord (Array.replicate ops.size false) σ yu h
 rw [hlen] at ad
 exact Kv (m:=m) (fr:=fr) (N:=N) (Q:=fun e cr w'=>hq N m fr ρ σ (Q e) cr w') a0 (tp bQ) ops.size _ m ρ σ a _ cy (cu.drew _) lM ay ad (fun cr w' au=>au)
theorem abe{ι:Type}{c:Code}{Q:Exit→Act→World→Prop}{a:Act}{w:World}(eB:ι→Act→World→Prop)(tq:ι→Nat)(i0:ι)(abf:eB i0 a w)
  (round:∀i a w,eB i a w→c.wp P (Exit.then (fun cr w'=>∃j,eB j cr w'∧tq j<tq i) Q) a w):(Code.loop c).wp P Q a w:=by
 intro b k cs
 have key:∀n i a w,tq i=n→eB i a w→∃e cr w',Q e cr w'∧Arrives P (lone (b.at a (.code c:: .inLoop c::k)) cs w) b k cs e cr w':=by
  intro n
  induction n using Nat.strongRecOn with
  |_ n ih=>
   intro i a w aJ e6
   obtain ⟨e,yv,yw,bL,tu⟩:=round i a w e6 b (.inLoop c::k) cs
   cases e with
   |normal=>
    obtain ⟨j,abg,bP⟩:=bL
    obtain ⟨abh,abi,abj,abk,abl⟩:=ih (tq j) (aJ▸bP) j yv yw rfl abg
    exact ⟨abh,abi,abj,abk,.of_steps (Steps.trans tu (.one step_inLoop)) abl⟩
   |exit id=>exact ⟨_,yv,yw,bL,.pass (x:= .inLoop c) rfl (fun _ _=> .inl (by simp)) tu⟩
   |goto l=>exact ⟨_,yv,yw,bL,.pass (x:= .inLoop c) rfl (fun _ _=> .inl (by simp)) tu⟩
   |ret=>exact ⟨_,yv,yw,bL,.pass (x:= .inLoop c) rfl (fun _ _=> .inl (by simp)) tu⟩
   |panic atx=>exact ⟨_,yv,yw,bL,.pass (x:= .inLoop c) rfl (fun _ _=> .inl (by simp)) tu⟩
   |outgrown=>exact ⟨_,yv,yw,bL,.pass (x:= .inLoop c) rfl (fun _ _=> .inl (by simp)) tu⟩
 obtain ⟨e,cr,w',bL,tu⟩:=key _ i0 a w rfl abf
 exact ⟨e,cr,w',bL,.of_steps (.one step_loop) tu⟩
theorem abm{ι:Type}{c:Code}(eB:ι→St)(tq:ι→Nat)(i0:ι)(aq:fR σ (eB i0))
  (round:∀i,fS P T G N c (eB i) (thenQ (fun aR=>∃j,fR aR (eB j)∧tq j<tq i) Q)):fS P T G N (.loop c) σ Q:=by
 intro m fr ρ a w cy cu bQ ay
 refine abe (fun i a w=>∃eU ld,m.le eU∧Den eU fr ld (eB i) a w∧N≤a.tmps.size∧a.defers=[]∧jx σ ρ (eB i) ld) tq i0 ?_ ?_
 ·obtain ⟨ca,cn,ad,ae,ax⟩:=aq m fr ρ a w cu
  exact ⟨ca,cn,ad,ae,bQ,ay,ax⟩
 ·rintro i ag lg ⟨eU,ld,a2,bb,bJ,ek,h8⟩
  refine wp_mono (round i eU fr ld ag lg (cy.mono a2) bb bJ ek) ?_
  intro e cr w' au
  have lL:=au.trans a2 h8
  cases e with
  |normal=>
   obtain ⟨aR,ca,cn,⟨j,aF,bP⟩,ae,ax,aZ,bI,b9⟩:=lL
   obtain ⟨iY,jy,br,bj,bS⟩:=aF ca fr cn cr w' ax
   exact ⟨j,⟨iY,jy,Mem.le_trans ae br,bj,aZ,bI,b9.trans bS⟩,bP⟩
  |exit id=>exact lL
  |goto l=>exact lL
  |ret=>exact lL
  |panic c=>exact lL
  |outgrown=>exact lL
def resOne(T:bY)(σ:St):ResultVar→Option AV
 | .tmp t=>some (σ.aC t)
 | .cell a t=>match T t,σ.aC a with
  |some i,.ptr k off=>match σ.objs k with
   |some (.box cells)=>sY i cells off
   |_=>none
  |_,_=>none
def resA(T:bY)(σ:St)(rs:List ResultVar):Option AV:=
 match allSome (rs.map (resOne T σ)) with
 |some [x]=>some x
 |some l=>some (.aL l)
 |none=>none
theorem abn(a0:dn P T){m:Mem}{fr:eE}{ρ:cK}{a:Act}{w:World}(h:Den m fr ρ σ a w){tw:ResultVar}{x:AV}(ah:resOne T σ tw=some x):
  ∃v,((match tw with
   | .tmp t=>pure (a.tmps.getD t undef)
   | .cell hN t=>do loadVar t (←asAddr (a.tmps.getD hN undef)):Sem Value)).run P w= .ok v w∧bK m ρ σ.used x v:=by
 cases tw with
 |tmp t=>simp only [resOne,Option.some.injEq] at ah;subst ah;exact ⟨_,rfl,h.aC t⟩
 |cell hN t=>
  simp only [resOne] at ah
  split at ah
  case h_2=>cases ah
  rename_i i k off aG aB
  split at ah
  case h_2=>cases ah
  rename_i cells ai
  have aA:=h.aC hN
  rw [aB] at aA
  generalize uP:a.tmps.getD hN undef=u at aA
  cases aA with|ptr _ _ b hu au=>
  obtain ⟨b',vs,dC,aQ,aW,bA,cz⟩:=h.objs _ _ ai
  rw [au] at aQ
  cases aQ
  obtain ⟨v,r1,r2⟩:=PR (P:=P) a0 aG aW ⟨bA,cz⟩ ah
  exact ⟨v,by simp only [uP,asAddr,Sem.run_bind,Sem.run_pure,Result.andThen_ok,r1],r2⟩
theorem QX(a0:dn P T){m:Mem}{fr:eE}{ρ:cK}{a:Act}{w:World}(h:Den m fr ρ σ a w):∀(rs:List ResultVar) (xs:List AV),allSome (rs.map (resOne T σ))=some xs→
  ∃vs:List Value,(rs.mapM fun
   | .tmp t=>pure (a.tmps.getD t undef)
   | .cell hN t=>do loadVar t (←asAddr (a.tmps.getD hN undef)):Sem (List Value)).run P w= .ok vs w∧vs.length=xs.length∧∀(i:Nat) (x:AV) (v:Value),xs[i]?=some x→vs[i]?=some v→bK m ρ σ.used x v
 |[],xs,ah=>by simp [allSome] at ah;subst ah;exact ⟨[],by simp,rfl,by simp⟩
 |tw::rs,xs,ah=>by
  simp only [List.map_cons] at ah
  cases ad:resOne T σ tw with
  |none=>simp [ad,allSome] at ah
  |some x=>
   rw [ad] at ah
   simp only [allSome] at ah
   split at ah
   case h_2=>cases ah
   rename_i l an
   cases ah
   obtain ⟨v,r1,r2⟩:=abn (P:=P) a0 h ad
   obtain ⟨vs,r3,r4,abo⟩:=QX a0 h rs l an
   refine ⟨v::vs,?_,by simp [r4],?_⟩
   ·simp only [List.mapM_cons,Sem.run_bind,r1,r3,Result.andThen_ok,Sem.run_pure]
   ·intro i y u aT hu
    cases i with
    |zero=>simp at aT hu;subst aT;subst hu;exact r2
    |succ i=>exact abo i y u (by simpa using aT) (by simpa using hu)
theorem QY(a0:dn P T){m:Mem}{fr:eE}{ρ:cK}{a:Act}{w:World}(h:Den m fr ρ σ a w){fn:Func}{x:AV}(ah:resA T σ fn.results.toList=some x):
  ∃v,(results fn a.tmps).run P w= .ok v w∧bK m ρ σ.used x v:=by
 unfold resA at ah
 cases an:allSome (fn.results.toList.map (resOne T σ)) with
 |none=>simp [an] at ah
 |some xs=>
  obtain ⟨vs,r1,r2,r3⟩:=QX (P:=P) a0 h fn.results.toList xs an
  have ha:((fn.results.mapM fun
   | .tmp t=>pure (a.tmps.getD t undef)
   | .cell hN t=>do loadVar t (←asAddr (a.tmps.getD hN undef)):Sem (Array Value))).run P w= .ok vs.toArray w:=by
   rw [Array.mapM_eq_mapM_toList,Sem.run_map,r1]
   rfl
  have yx:(results fn a.tmps).run P w= .ok (if h:vs.toArray.size=1 then vs.toArray[0] else .tuple vs.toArray) w:=by
   unfold results
   rw [Sem.run_bind]
   exact (congrArg (fun r=>Result.andThen r _) ha).trans rfl
  rw [yx]
  rw [an] at ah
  split at ah
  ·rename_i y he
   cases ah
   cases he
   match vs,r2,r3 with
   |[v],_,r3=>exact ⟨v,by simp,r3 0 _ _ rfl rfl⟩
  ·rename_i l cc he
   cases ah
   cases he
   have fi:vs.toArray.size≠1:=by
    intro ad
    have:xs.length=1:=by rw [←r2];simpa using ad
    obtain ⟨y,aT⟩:=List.length_eq_one_iff.1 this
    exact cc y aT
   refine ⟨.tuple vs.toArray,?_,.aL _ _ (by simpa using r2) (fun i c v aj aM=>r3 i c v aj (by simpa using aM))⟩
   rw [dif_neg fi]
  ·cases ah
def start(args:List AV)(E:b6):St:=⟨fun t=>args.getD t .any,E⟩
theorem abp(a0:dn P T){f:FuncId}{fn:Func}{c:Code}{aD:List D}{dX:D→Prop}(a4:P.funcs[f]?=some fn)(ak:fn.body=some c)(FY:(fn.name== "runtime.NumGoroutine")=false)(hlen:aD.length≤fn.ntmps)
  (h:fS P T G fn.ntmps c (start (aD.map .d) fun _=>none) fun e aR=>(e= .normal∨e= .ret)∧∃r d x,resA T aR fn.results.toList=some r∧toD aR.objs r=some d∧d.le x∧dX x):dq P G f aD dX:=by
 refine ⟨⟨fn,a4,FY,by rw [ak];rfl⟩,?_⟩
 intro m fr w vs cy cU cu
 refine calls_of_wp a4 ak ?_
 have A9:Den m fr (fun _=>undef) (start (aD.map .d) fun _=>none) {tmps:=vs.toArray++Array.replicate (fn.ntmps-vs.toArray.size) undef,defers:=[]} w:=by
  refine ⟨cU.mem,cU.frame,cU.apart,?_,?_,?_,?_,?_⟩
  ·rintro k ⟨o,az⟩;cases az
  ·intro t
   simp only [start]
   by_cases aG:t<vs.length
   ·have bP:t<aD.length:=by rw [←cu.1];exact aG
    have ay:=List.getElem?_eq_getElem bP
    have aM:=List.getElem?_eq_getElem aG
    have aQ:(aD.map AV.d).getD t .any= .d aD[t]:=by rw [List.getD_eq_getElem?_getD,List.getElem?_map,ay];rfl
    have aW:(vs.toArray++Array.replicate (fn.ntmps-vs.toArray.size) undef).getD t undef=vs[t]:=by
     rw [Array.getD_eq_getD_getElem?,Array.getElem?_append_left (by simpa using aG)]
     simp [aG]
    rw [aQ,aW]
    exact .d _ _ (cu.2 t _ _ ay aM)
   ·have aQ:(aD.map AV.d).getD t .any= .any:=by rw [List.getD_eq_getElem?_getD,List.getElem?_eq_none (by simp;rw [←cu.1];omega)];rfl
    rw [aQ]
    exact .any _
  ·intro k o ai;cases ai
  ·intro k o b ai;cases ai
  ·intro k bg o o' b _ ai;cases ai
 have fi:fn.ntmps≤(vs.toArray++Array.replicate (fn.ntmps-vs.toArray.size) undef).size:=by simp;omega
 refine wp_mono (h m fr _ _ w cy A9 fi rfl) ?_
 rintro e cr w' ⟨aR,ca,cn,⟨he,r,d,x,ad,ae,ax,aZ⟩,bI,b9,e0,hR,iZ⟩
 obtain ⟨v,br,bj⟩:=QY (P:=P) a0 b9 ad
 have bS:=ax _ _ (Qo b9 bj ae)
 have fin:cr.defers=[]∧∃v,(results fn cr.tmps).run P w'= .ok v w'∧∃v1 eU r1,Ending.returned v= .returned v1∧dX r1∧m.le eU∧qo eU fr w'∧cS eU r1 v1:=
  ⟨hR,v,br,v,Den.all ca cn aR.objs w',x,rfl,aZ,Mem.le_trans bI (Den.yk _ _ _ _),b9.Ql,bS⟩
 rcases he with rfl|rfl
 ·exact fin
 ·exact fin
end
end Go.Am
namespace Go.Am
set_option linter.unusedVariables false
def Ba:List AV→Option (List D)
 |[]=>some []
 | .d x::r=>(Ba r).map (x::·)
 |_=>none
def asD:AV→Option D
 | .d x=>some x
 | .agg cs=>(Ba cs).map .agg
 | .aL cs=>(Ba cs).map .aL
 |_=>none
theorem QZ:∀{cs:List AV} {aD:List D},Ba cs=some aD→cs=aD.map .d
 |[],aD,h=>by cases h;rfl
 | .d x::r,aD,h=>by
  obtain ⟨l,an,rfl⟩:=Option.map_eq_some_iff.1 h
  rw [QZ an];rfl
 | .any::_,_,h=>by cases h
 | .agg _::_,_,h=>by cases h
 | .aL _::_,_,h=>by cases h
 | .dO _ _::_,_,h=>by cases h
 | .ptr _ _::_,_,h=>by cases h
 | .fb _ _ _ _::_,_,h=>by cases h
 | .row _::_,_,h=>by cases h
 | .sub _ _ _ _::_,_,h=>by cases h
 | .map _::_,_,h=>by cases h
 | .fn _ _ _::_,_,h=>by cases h
theorem abq{m:Mem}{ρ:cK}{U:Key→Prop}{x:AV}{a:D}{v:Value}(h:asD x=some a)(ah:bK m ρ U x v):cS m a v:=by
 have part:∀{cs:List AV} {aD:List D} {vs:Array Value},Ba cs=some aD→vs.size=cs.length→(∀(i:Nat) (c:AV) (v:Value),cs[i]?=some c→vs[i]?=some v→bK m ρ U c v)→
   vs.size=aD.length∧∀(i:Nat) (c:D) (v:Value),aD[i]?=some c→vs[i]?=some v→cS m c v:=by
  intro cs aD vs ay an aj
  have e:=QZ ay
  subst e
  refine ⟨by simpa using an,fun i c v ad ae=>?_⟩
  have:=aj i (.d c) v (by simp [ad]) ae
  cases this with|d _ _ h=>exact h
 unfold asD at h
 split at h
 ·cases h;cases ah with|d _ _ h=>exact h
 ·obtain ⟨aD,ay,rfl⟩:=Option.map_eq_some_iff.1 h
  cases ah with|agg _ vs an aj=>exact .agg _ _ (part ay an aj).1 (part ay an aj).2
 ·obtain ⟨aD,ay,rfl⟩:=Option.map_eq_some_iff.1 h
  cases ah with|aL _ vs an aj=>exact .aL _ _ (part ay an aj).1 (part ay an aj).2
 ·cases h
def AvLe0(bT:Key→Key)(U:Key→Prop)(x y:AV):Prop:=
 match y with
 | .any=>True
 | .d b=>∃a,asD x=some a∧a.le b
 | .dO cs off=>x= .dO cs off∨x= .d (.ref cs off)
 | .ptr k off=>x= .ptr (bT k) off∧U k
 | .fb k cx i off=>x= .fb (bT k) cx i off∧U k
 | .row k=>x= .row (bT k)∧U k
 | .sub k cx i len=>x= .sub (bT k) cx i len∧U k
 | .map k=>x= .map (bT k)∧U k
 |_=>False
def hS(bT:Key→Key)(U:Key→Prop):List AV→List AV→Prop
 |[],[]=>True
 |x::xs,y::cN=>AvLe0 bT U x y∧hS bT U xs cN
 |_,_=>False
def AvLe(bT:Key→Key)(U:Key→Prop)(x y:AV):Prop:=
 match y with
 | .agg cN=>match x with
  | .agg xs=>hS bT U xs cN
  | .d (.agg aD)=>hS bT U (aD.map .d) cN
  |_=>False
 | .aL cN=>match x with
  | .aL xs=>hS bT U xs cN
  |_=>False
 | .fn f as h7=>match x with
  | .fn hB abr abt=>f=hB∧hS bT U abr as∧hS bT U abt h7
  |_=>False
 |y=>AvLe0 bT U x y
def qs(bT:Key→Key)(U:Key→Prop):List AV→List AV→Prop
 |[],[]=>True
 |x::xs,y::cN=>AvLe bT U x y∧qs bT U xs cN
 |_,_=>False
section
variable{m:Mem}{ρ:cK}{ob U:Key→Prop}{bT:Key→Key}
theorem AvLe0.ok{x y:AV}(h:AvLe0 bT U x y){v:Value}(ah:bK m ρ ob x v):bK m (fun k=>ρ (bT k)) U y v:=by
 unfold AvLe0 at h
 split at h
 ·exact .any _
 ·obtain ⟨a,aA,hle⟩:=h
  exact .d _ _ (hle _ _ (abq aA ah))
 ·rcases h with rfl|rfl
  ·cases ah with|dO _ _ b o vs T dI hm xs ad ae=>exact .dO _ _ b o vs T dI hm xs ad ae
  ·cases ah.mu with|ref _ _ b o vs T dI hm xs ad ae=>exact .dO _ _ b o vs T dI hm xs ad ae
 ·obtain ⟨rfl,hu⟩:=h
  cases ah with|ptr _ _ b _ au=>exact .ptr _ _ b hu au
 ·obtain ⟨rfl,hu⟩:=h
  cases ah with|fb _ _ _ _ b o len cap _ au=>exact .fb _ _ _ _ b o len cap hu au
 ·obtain ⟨rfl,hu⟩:=h
  cases ah
  exact .row (ρ:=fun k=>ρ (bT k)) _ hu
 ·obtain ⟨rfl,hu⟩:=h
  cases ah with
  |sub _ _ _ _ b o L cap a _ au hle aA=>exact .sub _ _ _ _ b o L cap a hu au hle aA
  |jv _ _ _ _ au=>exact .jv _ _ _ hu au
 ·obtain ⟨rfl,hu⟩:=h
  cases ah
  exact .map (ρ:=fun k=>ρ (bT k)) _ hu
 ·cases h
theorem hS.ok:∀{xs cN:List AV},hS bT U xs cN→cN.length=xs.length∧∀(i:Nat) (y:AV),cN[i]?=some y→∃x,xs[i]?=some x∧AvLe0 bT U x y
 |[],[],_=>⟨rfl,by simp⟩
 |x::xs,y::cN,h=>by
  have ih:=hS.ok h.2
  refine ⟨by simp [ih.1],?_⟩
  intro i z bz
  cases i with
  |zero=>simp at bz;subst bz;exact ⟨x,rfl,h.1⟩
  |succ i=>simp at bz;obtain ⟨w,ad,ae⟩:=ih.2 i z bz;exact ⟨w,by simpa using ad,ae⟩
 |[],y::cN,h=>h.elim
 |x::xs,[],h=>h.elim
theorem hS.cells{xs cN:List AV}{vs:Array Value}(h:hS bT U xs cN)(ah:ki m ρ ob xs vs):ki m (fun k=>ρ (bT k)) U cN vs:=by
 obtain ⟨ad,ae⟩:=h.ok
 refine ⟨by rw [ah.1,ad],?_⟩
 intro i y v aT aM
 obtain ⟨x,ax,aZ⟩:=ae i y aT
 exact aZ.ok (ah.2 i x v ax aM)
theorem AvLe.ok{x y:AV}(h:AvLe bT U x y){v:Value}(ah:bK m ρ ob x v):bK m (fun k=>ρ (bT k)) U y v:=by
 unfold AvLe at h
 split at h
 ·rename_i cN
  split at h
  ·rename_i xs
   obtain ⟨vs,rfl,aj⟩:=ah.PL
   have:=hS.cells h aj
   exact .agg _ _ this.1 this.2
  ·rename_i aD
   obtain ⟨vs,rfl,an,aj⟩:=ah.PK
   have aq:ki m ρ ob (aD.map .d) vs:=⟨by simpa using an,by
    intro i c v c4 aM
    simp only [List.getElem?_map,Option.map_eq_some_iff] at c4
    obtain ⟨z,bz,rfl⟩:=c4
    exact .d _ _ (aj i z v bz aM)⟩
   have:=hS.cells h aq
   exact .agg _ _ this.1 this.2
  ·cases h
 ·split at h
  ·obtain ⟨vs,rfl,aj⟩:=ah.PM
   have:=hS.cells h aj
   exact .aL _ _ this.1 this.2
  ·cases h
 ·split at h
  ·obtain ⟨rfl,ad,ae⟩:=h
   cases ah with|fn _ _ _ vs ws an dS g oW=>
   have a:=hS.cells (U:=U) ad ⟨an,g⟩
   have b:=hS.cells (U:=U) ae ⟨dS,oW⟩
   exact .fn _ _ _ vs ws a.1 b.1 a.2 b.2
  ·cases h
 ·exact h.ok ah
end
theorem qs.ok{bT:Key→Key}{U:Key→Prop}:∀{xs cN:List AV},qs bT U xs cN→cN.length=xs.length∧∀(i:Nat) (y:AV),cN[i]?=some y→∃x,xs[i]?=some x∧AvLe bT U x y
 |[],[],_=>⟨rfl,by simp⟩
 |x::xs,y::cN,h=>by
  have ih:=qs.ok h.2
  refine ⟨by simp [ih.1],?_⟩
  intro i z bz
  cases i with
  |zero=>simp at bz;subst bz;exact ⟨x,rfl,h.1⟩
  |succ i=>simpa using ih.2 i z (by simpa using bz)
 |[],y::cN,h=>h.elim
 |x::xs,[],h=>h.elim
theorem qs.cells{m:Mem}{ρ:cK}{ob U:Key→Prop}{bT:Key→Key}{xs cN:List AV}{vs:Array Value}(h:qs bT U xs cN)(ah:ki m ρ ob xs vs):ki m (fun k=>ρ (bT k)) U cN vs:=by
 obtain ⟨ad,ae⟩:=h.ok
 refine ⟨by rw [ah.1,ad],?_⟩
 intro i y v aT aM
 obtain ⟨x,ax,aZ⟩:=ae i y aT
 exact aZ.ok (ah.2 i x v ax aM)
def Kx(es cL:List (List D)):Prop:=es=cL∨(es.length=cL.length∧∀(i:Nat) (x y:List D),es[i]?=some x→cL[i]?=some y→x.length=y.length∧y.all D.one=true∧∀(j:Nat) (a b:D),x[j]?=some a→y[j]?=some b→a.le b)
def ObLe(bT:Key→Key)(U:Key→Prop)(x y:cl):Prop:=
 match y with
 | .dead=>True
 | .box cN=>∃xs,x= .box xs∧qs bT U xs cN
 | .row k cL=>∃es,x= .row k es∧Kx es cL
 | .map es=>x= .map es
theorem Kx.ok{m:Mem}{ρ cn:cK}{U k8:Key→Prop}{k:Nat}{es cL:List (List D)}(h:Kx es cL){v:Value}{w:World}(ah:h5 m ρ U v w (.row k es)):h5 m cn k8 v w (.row k cL):=by
 rcases h with rfl|⟨an,h⟩
 ·exact ah
 ·rcases ah with⟨aQ,rfl⟩|⟨b,o,cap,vs,T,aQ,aW,bA,cz,dD,eZ⟩
  ·exact .inl ⟨aQ,List.eq_nil_of_length_eq_zero (by rw [←an];rfl)⟩
  ·have key:∀(i:Nat) (y:List D),cL[i]?=some y→∃x,es[i]?=some x∧x.length=y.length∧y.all D.one=true∧∀(j:Nat) (a b:D),x[j]?=some a→y[j]?=some b→a.le b:=by
    intro i y aT
    have af:i<es.length:=by rw [an];exact (List.getElem?_eq_some_iff.1 aT).1
    exact ⟨_,List.getElem?_eq_getElem af,h i _ y (List.getElem?_eq_getElem af) aT⟩
   refine .inr ⟨b,o,cap,vs,T,by rw [←an];exact aQ,aW,by omega,cz,?_,?_⟩
   ·intro y aT
    obtain ⟨i,af⟩:=List.mem_iff_getElem?.1 aT
    obtain ⟨x,ad,ae,ax,_⟩:=key i y af
    exact ⟨by rw [←ae];exact (dD x (List.mem_of_getElem? ad)).1,ax⟩
   ·intro i y j c af aF
    obtain ⟨x,ad,ae,_,ax⟩:=key i y af
    have Q0:j<x.length:=by rw [ae];exact (List.getElem?_eq_some_iff.1 aF).1
    obtain ⟨z,a2,bb⟩:=eZ i x j _ ad (List.getElem?_eq_getElem Q0)
    exact ⟨z,a2,ax j _ c (List.getElem?_eq_getElem Q0) aF _ _ bb⟩
def lookS:List (Nat×AV)→Nat→AV
 |[],_=> .any
 |(j,v)::r,t=>if t=j then v else lookS r t
def lookO:List (Key×cl)→Key→Option cl
 |[],_=>none
 |(j,o)::r,k=>if k=j then some o else lookO r k
def Q1(ls:List (Nat×AV))(lo:List (Key×cl)):St:=⟨lookS ls,lookO lo⟩
def yy(bT:Key→Key)(U:Key→Prop)(σ:St):List (Nat×AV)→Prop
 |[]=>True
 |(t,v)::r=>AvLe bT U (σ.aC t) v∧yy bT U σ r
def vg(bT:Key→Key)(U:Key→Prop)(σ:St):List (Key×cl)→Prop
 |[]=>True
 |(k,o)::r=>(∃o',σ.objs (bT k)=some o'∧ObLe bT U o' o)∧vg bT U σ r
theorem yy.ok{bT:Key→Key}{U:Key→Prop}{σ:St}:∀{ls:List (Nat×AV)},yy bT U σ ls→∀t,AvLe bT U (σ.aC t) (lookS ls t)
 |[],_,t=>trivial
 |(j,v)::r,h,t=>by
  unfold lookS
  split
  ·rename_i e;subst e;exact h.1
  ·exact yy.ok h.2 t
theorem vg.ok{bT:Key→Key}{U:Key→Prop}{σ:St}:∀{lo:List (Key×cl)},vg bT U σ lo→∀k o,lookO lo k=some o→∃o',σ.objs (bT k)=some o'∧ObLe bT U o' o
 |[],_,k,o,h=>by cases h
 |(j,x)::r,h,k,o,ai=>by
  unfold lookO at ai
  split at ai
  ·rename_i e;subst e;cases ai;exact h.1
  ·exact vg.ok h.2 k o ai
def e1:List (Key×Key)→Key→Key
 |[],k=>k
 |(a,b)::r,k=>if k=a then b else e1 r k
def kp(lo:List (Key×cl)):List Key:=lo.map (·.1)
def renOk(bT:Key→Key):List Key→Bool
 |[]=>true
 |k::r=>r.all (fun j=>k==j||!(bT k==bT j))&&renOk bT r
theorem FZ{bT:Key→Key}:∀{l:List Key},renOk bT l=true→∀k j,k∈l→j∈l→bT k=bT j→k=j
 |[],_,k,j,h,_,_=>by cases h
 |x::r,h,k,j,ai,aF,he=>by
  simp only [renOk,Bool.and_eq_true,List.all_eq_true] at h
  rcases List.mem_cons.1 ai with rfl|dZ
  ·rcases List.mem_cons.1 aF with rfl|qh
   ·rfl
   ·have:=h.1 j qh
    simp at this
    rcases this with ad|ad
    ·exact ad
    ·exact absurd he ad
  ·rcases List.mem_cons.1 aF with rfl|qh
   ·have:=h.1 k dZ
    simp at this
    rcases this with ad|ad
    ·exact ad.symm
    ·exact absurd he.symm ad
   ·exact FZ h.2 k j dZ qh he
theorem tx:∀{lo:List (Key×cl)} {k:Key} {o:cl},lookO lo k=some o→k∈kp lo
 |[],k,o,h=>by cases h
 |(j,x)::r,k,o,h=>by
  unfold lookO at h
  split at h
  ·rename_i e;subst e;simp [kp]
  ·have:=tx h
   simp only [kp,List.map_cons,List.mem_cons] at this⊢
   exact .inr this
theorem abu{σ:St}{ls:List (Nat×AV)}{lo:List (Key×cl)}(l:List (Key×Key))(au:renOk (e1 l) (kp lo)=true)
  (aB:yy (e1 l) (fun k=>∃o,lookO lo k=some o) σ ls) (az:vg (e1 l) (fun k=>∃o,lookO lo k=some o) σ lo)
  (ai:∀k,10000≤k→dP (σ.objs k)→dP (lookO lo k)∧e1 l k=k):fR σ (Q1 ls lo):=by
 intro m fr ρ a w h
 have iU:∀{o o':cl},ObLe (e1 l) (fun k=>∃o,lookO lo k=some o) o' o→o.owns=true→o'.owns=true:=by
  intro o o' hle az
  cases o with
  |dead=>cases az
  |box=>obtain ⟨xs,rfl,_⟩:=hle;rfl
  |row=>obtain ⟨es,rfl,_⟩:=hle;rfl
  |map=>cases hle;rfl
 refine ⟨m,fun k=>ρ (e1 l k),Mem.le_refl m,⟨h.mem,h.frame,h.apart,?_,?_,?_,?_,?_⟩,fun k dZ ak=>⟨(ai k dZ ak).1,by show ρ (e1 l k)=ρ k;rw [(ai k dZ ak).2]⟩⟩
 ·rintro k ⟨o,kq⟩
  obtain ⟨o',ad,_⟩:=az.ok k o kq
  exact h.one _ ⟨o',ad⟩
 ·intro t
  exact (aB.ok t).ok (h.aC t)
 ·intro k o kq
  obtain ⟨o',ad,ae⟩:=az.ok k o kq
  have ax:=h.objs _ _ ad
  cases o with
  |dead=>trivial
  |box cN=>
   obtain ⟨xs,rfl,hle⟩:=ae
   obtain ⟨b,vs,T,aQ,aW,bA,cz⟩:=ax
   have:=qs.cells hle ⟨bA,cz⟩
   exact ⟨b,vs,T,aQ,aW,this.1,this.2⟩
  |row cx cL=>
   obtain ⟨es,rfl,hle⟩:=ae
   exact hle.ok ax
  |map es=>
   cases ae
   exact ax
 ·intro k o b kq F0 ak
  obtain ⟨o',ad,ae⟩:=az.ok k o kq
  exact h.own _ o' b ad (iU ae F0) ak
 ·intro k bg o o' b cc kq Bb Ky Kz ak
  obtain ⟨x,ad,ae⟩:=az.ok k o kq
  obtain ⟨h6,c3,fQ⟩:=az.ok bg o' Bb
  exact h.sep (e1 l k) (e1 l bg) x h6 b (fun e=>cc (FZ au k bg (tx kq) (tx Bb) e)) ad c3 (iU ae Ky) (iU fQ Kz) ak
end Go.Am
namespace Go.Am
set_option linter.unusedVariables false
def eqFs(P:Program):Nat→List Field→Option (List TypeDesc)
 |_,[]=>some []
 |off,f::cL=>if f.name≠ "_" ∧f.offset=off then(match P.underlying f.type with
  |some .bool=>(eqFs P (off+1) cL).map (.bool::·)
  |some (.int k)=>(eqFs P (off+1) cL).map (.int k::·)
  |some .string=>(eqFs P (off+1) cL).map (.string::·)
  |_=>none) else none
theorem F1{P:Program}:∀{cL:List Field} {off:Nat} {l:List TypeDesc},eqFs P off cL=some l→Fa P off cL l
 |[],_,l,h=>by cases h;trivial
 |f::cL,off,l,h=>by
  unfold eqFs at h
  split at h
  case isFalse=>cases h
  rename_i ad
  split at h
  ·rename_i hu
   obtain ⟨r,au,rfl⟩:=Option.map_eq_some_iff.1 h
   exact ⟨ad.1,ad.2,hu,rfl,F1 au⟩
  ·rename_i hu
   obtain ⟨r,au,rfl⟩:=Option.map_eq_some_iff.1 h
   exact ⟨ad.1,ad.2,hu,rfl,F1 au⟩
  ·rename_i hu
   obtain ⟨r,au,rfl⟩:=Option.map_eq_some_iff.1 h
   exact ⟨ad.1,ad.2,hu,rfl,F1 au⟩
  ·cases h
def eqsOf(P:Program)(t:TypeId):Option (List TypeDesc):=match P.underlying t with
 |some (.struct cL)=>match eqFs P 0 cL.toList with
  |some l=>if P.stoodInHeld t=false∧P.eqGuardType P.depth t=false then some l else none
  |none=>none
 |_=>none
theorem abv{P:Program}{t:TypeId}{l:List TypeDesc}(h:eqsOf P t=some l):Pv P t l:=by
 unfold eqsOf at h
 split at h
 case h_2=>cases h
 rename_i cL hu
 have a4:P.fieldsOf t=cL:=by simp [Program.fieldsOf,hu]
 split at h
 case h_2=>cases h
 rename_i oS an
 split at h
 case isFalse=>cases h
 rename_i aj
 cases h
 exact ⟨by rw [a4];exact hu,aj.1,aj.2,by rw [a4];exact F1 an⟩
def infoOf(P:Program)(t:TypeId):Option hn:=
 match P.underlying t,P.info? t with
 |some d,some i=>match i.zero with
  |some z=>if z.cells.size=i.size then some ⟨d,i.size,i.bytes,z⟩ else none
  |none=>none
 |_,_=>none
def methOf(P:Program)(t:TypeId)(name:String):Option FuncId:=match P.info? t,P.underlying t with
 |some i,some d=>match d with
  | .pointer _=>none
  |_=>match i.methods.find? (fun m=>m.name==name) with
   |some m=>match m.path.toList,m.func with
    |[],some (f,false)=>some f
    |_,_=>none
   |none=>none
 |_,_=>none
theorem abw{P:Program}{t:TypeId}{name:String}{f:FuncId}(h:methOf P t name=some f):Fb P t name f:=by
 unfold methOf at h
 split at h
 case h_2=>cases h
 rename_i i d ad ae
 split at h
 case h_1=>cases h
 rename_i aV
 split at h
 case h_2=>cases h
 rename_i m hm
 split at h
 case h_2=>cases h
 rename_i g ax aZ
 cases h
 exact ⟨i,m,d,ad,hm,ax,aZ,ae,fun e he=>aV e he⟩
def eK(P:Program):bY:=⟨infoOf P,eqsOf P,fun _=>false,methOf P,[]⟩
def bY.F2(T:bY)(l:List TypeId):bY:=⟨T.JH,T.eqs,T.born,T.qf,l⟩
theorem dn.F2{P:Program}{T:bY}(h:dn P T)(l:List TypeId):dn P (T.F2 l):=⟨h.ty,h.Fc,h.eqs,h.JI⟩
def bY.qt(T:bY)(l:List Nat):bY:=⟨T.JH,T.eqs,fun k=>l.contains k,T.qf,T.Pu⟩
theorem dn.qt{P:Program}{T:bY}(h:dn P T)(l:List Nat):dn P (T.qt l):=⟨h.ty,h.Fc,h.eqs,h.JI⟩
theorem tok(P:Program):dn P (eK P):=by
 constructor
 ·intro t i h
  change infoOf P t=some i at h
  unfold infoOf at h
  split at h
  case h_2=>cases h
  rename_i d info ad ae
  split at h
  case h_2=>cases h
  rename_i z bz
  split at h
  case isFalse=>cases h
  cases h
  exact ⟨ad,info,ae,rfl,rfl,bz⟩
 ·intro t i h
  change infoOf P t=some i at h
  unfold infoOf at h
  split at h
  case h_2=>cases h
  rename_i d info ad ae
  split at h
  case h_2=>cases h
  rename_i z bz
  split at h
  case isFalse=>cases h
  rename_i aB
  cases h
  exact aB
 ·intro t l h
  exact abv h
 ·intro t name f h
  exact abw h
def J(n:Int):D:= .val (.int .i64 n)
def ar(b:Bool):D:= .val (.bool b)
def aI(s:ByteArray):D:= .val (.string s)
def cw(l:List Int):D:= .aE 1 (l.map fun n=>[J n])
def c0(l:List ByteArray):D:= .aE 1 (l.map fun s=>[aI s])
end Go.Am
