/- Steps, joins, and nil slices that become rows of our own. No condition. -/
import Derived.Test.YtknmgdnhongcnaaGreatDoorEngB
set_option linter.all false
set_option linter.unnecessarySimpa false
namespace Go.Am
set_option linter.unusedVariables false
section
variable{P:Program}{T:bW}{G:cV}{N:Nat}{σ:St}{Q:Exit→St→Prop}{all:Array Oper}
theorem aa7(l:List Oper):∀(k:Nat) (σ:St) (K:St→Prop),(∀j,l[j]?=all[k+j]?)→vOps P T G all l K σ→vOrd P T G all (List.range' k l.length) K σ:=by
 induction l with
 |nil=>intro k σ K _ h;exact h
 |cons o l ih=>
  intro k σ K aq h
  have ar:all[k]?=some o:=by simpa using(aq 0).symm
  simp only [List.length_cons,List.range'_succ,vOrd,ar]
  refine AT (fun aP rG=>ih (k+1) aP K (fun j=>by have:=aq (j+1);simpa [Nat.add_assoc,Nat.add_comm 1 j] using this) rG) h
theorem aa8(a4:dk P T)(hm:P.follows .mixedOrders=true){id:Nat}{ops:Array Oper}(bV:dstOk N ops=true)(yg:ordFrom T ops (List.range ops.size) (Array.replicate ops.size false)=true)
  (h:vOps P T G ops ops.toList (Q .normal) σ):fY P T G N (.region id ops true) σ Q:=by
 refine aaO a4 hm bV (List.range ops.size) (by simp) yg ?_
 rw [List.range_eq_range']
 have:=aa7 (P:=P) (T:=T) (G:=G) (all:=ops) ops.toList 0 σ (Q .normal) (fun j=>by simp) h
 simpa using this
end
end Go.Am
namespace Go.Am
set_option linter.unusedVariables false
section
variable{P:Program}{T:bW}{G:cV}{N:Nat}{σ fh:St}{Q:Exit→St→Prop}{id:Nat}{ops:Array Oper}
end
theorem wrap64(x:Int)(ad:-9223372036854775808≤x)(ae:x≤9223372036854775807):IntKind.i64.wrap x=x:=by
 rw [IntKind.wrap_i64];omega
def Fin(T:bW)(rs:List ResultVar)(dQ:D→Prop)(e:Exit)(aP:St):Prop:=
 (e= .normal∨e= .ret)∧∃r d x,resA T aP rs=some r∧toD aP.objs r=some d∧d.le x∧dQ x
theorem getD_cons_zero{α:Type}(x:α)(l:List α)(d:α):(x::l).getD 0 d=x:=rfl
theorem getD_cons_succ{α:Type}(x:α)(l:List α)(n:Nat)(d:α):(x::l).getD (n+1) d=l.getD n d:=rfl
end Go.Am
namespace Go.Am
set_option linter.unusedVariables false
theorem QD{σ:St}(K:Key)(n:Nat)(rJ:Nat→AV)(objs':b8)(gg:σ.objs K=none)
  (az:∀t,rJ t=σ.aC t∨σ.aC t= .d (.val (.slice none 0 0))∧rJ t= .row K)
  (aG:∀k o,objs' k=some o→k=K∧o= .row n []∨k≠K∧(σ.objs k=some o∨∃xs i,σ.objs k=some (.box xs)∧xs[i]?=some (.d (.val (.slice none 0 0)))∧o= .box (xs.set i (.row K))))
  (mN:∀k,σ.objs k≠none→objs' k≠none) (aa9:objs' K=some (.row n [])) (aba:∀k,dS (σ.objs k)→dS (objs' k)):fX σ ⟨rJ,objs'⟩:=by
 intro m fr ρ a w h
 have ca:∀k,σ.used k→k≠K:=by rintro k ⟨o,ai⟩ rfl;rw [gg] at ai;cases ai
 have av:∀k,σ.used k→St.used ⟨rJ,objs'⟩ k∧b0 ρ K (.slice none 0 0) k=ρ k:=fun k ai=>
  ⟨by
   cases bu:objs' k with
   |none=>exact absurd bu (mN k (by obtain ⟨o,e⟩:=ai;rw [e];simp))
   |some o=>exact ⟨o,bu⟩,ct _ _ (ca k ai)⟩
 have abb:St.used ⟨rJ,objs'⟩ K:=⟨_,aa9⟩
 have yl:b0 ρ K (.slice none 0 0) K= .slice none 0 0:=by simp [b0]
 have nh:bI m (b0 ρ K (.slice none 0 0)) (St.used ⟨rJ,objs'⟩) (.row K) (.slice none 0 0):=by
  have:=bI.row (m:=m) (ρ:=b0 ρ K (.slice none 0 0)) (U:=St.used ⟨rJ,objs'⟩) K abb
  rw [yl] at this
  exact this
 refine ⟨m,b0 ρ K (.slice none 0 0),Mem.le_refl m,⟨h.mem,h.frame,h.apart,?_,?_,?_,?_,?_⟩,?_⟩
 ·rintro k ⟨o,ai⟩
  rcases aG k o ai with⟨rfl,rfl⟩|⟨ad,ae⟩
  ·rw [yl];rfl
  ·rw [ct _ _ ad]
   rcases ae with ae|⟨xs,i,ae,_,_⟩
   ·exact h.one k ⟨_,ae⟩
   ·exact h.one k ⟨_,ae⟩
 ·intro t
  rcases az t with e|⟨aS,aV⟩
  ·show bI m _ _ (rJ t) _
   rw [e]
   exact (h.aC t).mono (Mem.le_refl m) av
  ·show bI m _ _ (rJ t) _
   rw [aV]
   have:=h.aC t
   rw [aS] at this
   rw [this.gA]
   exact nh
 ·intro k o ai
  rcases aG k o ai with⟨rfl,rfl⟩|⟨ad,ae⟩
  ·rw [yl];exact .inl ⟨rfl,rfl⟩
  ·rw [ct _ _ ad]
   rcases ae with ae|⟨xs,i,ae,ay,rfl⟩
   ·exact (h.objs k o ae).mono (Mem.le_refl m) av (fun _ _ _=>rfl)
   ·obtain ⟨b,vs,T,aS,aV,bz,cB⟩:=(h.objs k _ ae).mono (Mem.le_refl m) av (fun _ _ _=>rfl)
    refine ⟨b,vs,T,aS,aV,by simpa using bz,?_⟩
    intro j c x aj ag
    rw [List.getElem?_set] at aj
    split at aj
    ·rename_i kQ
     subst kQ
     split at aj
     ·cases aj
      have:=cB i _ x ay ag
      rw [this.gA]
      exact nh
     ·cases aj
    ·exact cB j c x aj ag
 ·intro k o b ai abc ak
  rcases aG k o ai with⟨rfl,rfl⟩|⟨ad,ae⟩
  ·have fM:blockOf (b0 ρ k (.slice none 0 0) k)=some b:=ak
   rw [yl] at fM;cases fM
  ·have fM:blockOf (b0 ρ K (.slice none 0 0) k)=some b:=ak
   rw [ct _ _ ad] at fM
   rcases ae with ae|⟨xs,i,ae,_,rfl⟩
   ·exact h.own k o b ae abc fM
   ·exact h.own k _ b ae rfl fM
 ·intro k bg o o' b c6 ai eR fP lx ak
  rcases aG k o ai with⟨rfl,rfl⟩|⟨ad,ae⟩
  ·have fM:blockOf (b0 ρ k (.slice none 0 0) k)=some b:=ak
   rw [yl] at fM;cases fM
  ·rw [ct _ _ ad] at ak
   rcases aG bg o' eR with⟨rfl,rfl⟩|⟨dw,fW⟩
   ·rw [yl];intro bu;cases bu
   ·rw [ct _ _ dw]
    have hold:∃p,σ.objs k=some p∧p.owns=true:=by
     rcases ae with ae|⟨xs,i,ae,_,rfl⟩
     ·exact ⟨_,ae,fP⟩
     ·exact ⟨_,ae,rfl⟩
    have abd:∃p,σ.objs bg=some p∧p.owns=true:=by
     rcases fW with fW|⟨xs,i,fW,_,rfl⟩
     ·exact ⟨_,fW,lx⟩
     ·exact ⟨_,fW,rfl⟩
    obtain ⟨p,br,bo⟩:=hold
    obtain ⟨mH,abe,abf⟩:=abd
    exact h.sep k bg p mH b c6 br abe bo abf ak
 ·intro k ai ak
  refine ⟨aba k ak,ct _ _ ?_⟩
  obtain ⟨c,aj⟩:=x8 ak
  exact ca k ⟨_,aj⟩
theorem abg{σ:St}(t:Nat)(K:Key)(n:Nat)(aE:σ.aC t= .d (.val (.slice none 0 0)))(gg:σ.objs K=none):fX σ ⟨b0 σ.aC t (.row K),b0 σ.objs K (some (.row n []))⟩:=by
 refine QD K n _ _ gg ?_ ?_ ?_ (by simp [b0]) ?_
 ·intro j
  by_cases h:j=t
  ·subst h;exact .inr ⟨aE,by simp [b0]⟩
  ·exact .inl (by simp [b0,h])
 ·intro k o ai
  by_cases h:k=K
  ·subst h;simp [b0] at ai;exact .inl ⟨rfl,ai.symm⟩
  ·rw [ct _ _ h] at ai;exact .inr ⟨h,.inl ai⟩
 ·intro k ai
  by_cases h:k=K
  ·subst h;simp [b0]
  ·rw [ct _ _ h];exact ai
 ·intro k ak
  have h:k≠K:=by rintro rfl;rw [gg] at ak;exact rC ak
  rw [ct _ _ h];exact ak
theorem abh{σ:St}(k:Key)(i:Nat)(K:Key)(n:Nat){xs:List AV}(ai:σ.objs k=some (.box xs))(af:xs[i]?=some (.d (.val (.slice none 0 0))))(gg:σ.objs K=none):
  fX σ ⟨σ.aC,b0 (b0 σ.objs k (some (.box (xs.set i (.row K))))) K (some (.row n []))⟩:=by
 have asA:k≠K:=by rintro rfl;rw [gg] at ai;cases ai
 refine QD K n _ _ gg (fun _=> .inl rfl) ?_ ?_ (by simp [b0]) ?_
 ·intro j o aH
  by_cases h:j=K
  ·subst h;simp [b0] at aH;exact .inl ⟨rfl,aH.symm⟩
  ·rw [ct _ _ h] at aH
   by_cases ae:j=k
   ·subst ae
    simp [b0] at aH
    exact .inr ⟨h,.inr ⟨xs,i,ai,af,aH.symm⟩⟩
   ·rw [ct _ _ ae] at aH;exact .inr ⟨h,.inl aH⟩
 ·intro j aH
  by_cases h:j=K
  ·subst h;simp [b0]
  ·rw [ct _ _ h]
   by_cases ae:j=k
   ·subst ae;simp [b0]
   ·rw [ct _ _ ae];exact aH
 ·intro j ak
  have h:j≠K:=by rintro rfl;rw [gg] at ak;exact rC ak
  rw [ct _ _ h]
  by_cases ae:j=k
  ·subst ae;rw [dZ];exact rA
  ·rw [ct _ _ ae];exact ak
end Go.Am
namespace Go.Am
set_option linter.unusedVariables false
theorem abi{T:bW}{ev:Operand→AV}{objs:b8}{d:Key}{o:Op}{r:AV}{b5:List (Key×cq)}(h:effOp0 T ev objs d o=some (r,b5))(gU:∀t a x,o≠ .store t a x):∀j c,objs j=some (.box c)→updO objs b5 j=some (.box c):=by
 have FT:∀{objs:b8} {k:Key} {o:cq},(∀c,objs k≠some (.box c))→∀j c,objs j=some (.box c)→b0 objs k (some o) j=some (.box c):=by
  intro objs k o ai j c aH
  have:j≠k:=by rintro rfl;exact ai c aH
  rw [ct _ _ this];exact aH
 have new:∀{o:cq},objs d=none→∀j c,objs j=some (.box c)→updO objs [(d,o)] j=some (.box c):=by
  intro o ax
  exact FT (by intro c aj;rw [ax] at aj;cases aj)
 have same:∀{k:Key} {de o:cq},objs k=some de→(∀c,de≠ .box c)→∀j c,objs j=some (.box c)→updO objs [(k,o)] j=some (.box c):=by
  intro k de o ai ca
  exact FT (by intro c aj;rw [ai] at aj;cases aj;exact ca c rfl)
 cases o<;>simp only [effOp0,reduceCtorEq] at h
 case alloc=>split at h<;>cases h;exact new (by assumption)
 case box=>split at h<;>cases h;exact new (by assumption)
 case buildSlice=>
  split at h
  case h_2=>cases h
  split at h
  case h_2=>cases h
  split at h
  case h_2=>cases h
  split at h<;>cases h
  exact new (by assumption)
 case makeSlice=>
  split at h
  case h_2=>cases h
  split at h
  case h_2=>cases h
  split at h
  case h_2=>cases h
  split at h<;>cases h
  exact new (by assumption)
 case makeMap=>split at h<;>cases h;exact new (by assumption)
 case store=>exact absurd rfl (gU _ _ _)
 case mapUpdate=>
  split at h
  case h_2=>cases h
  split at h
  case h_2=>cases h
  split at h
  case isFalse=>cases h
  split at h
  case h_2=>cases h
  split at h
  case h_2=>cases h
  split at h<;>cases h
  exact same (by assumption) (by intro c aj;cases aj)
 case insert=>
  split at h
  case h_2=>cases h
  split at h
  case h_2=>cases h
  split at h
  case isFalse=>cases h
  split at h
  case h_2=>cases h
  split at h
  case h_2=>cases h
  split at h<;>cases h
  exact same (by assumption) (by intro c aj;cases aj)
 case call=>
  split at h
  ·split at h
   case h_2=>cases h
   split at h
   case h_2=>cases h
   split at h
   case h_2=>cases h
   split at h
   case h_2=>cases h
   split at h
   case isFalse=>cases h
   split at h
   ·split at h<;>cases h
    exact new (by assumption)
   ·split at h
    case h_2=>cases h
    split at h<;>cases h
    rename_i ax _ _ _ _ _ _ _ _ _ _ _ _ ai _ _
    have gi:=same (o:= .dead) (by assumption) (by intro c aj;cases aj)
    intro j aK aH
    have ad:=gi j aK aH
    refine FT ?_ j aK ad
    intro c ak
    have ca:∀key x,objs key=some x→d≠key:=by
     rintro key x ag rfl
     have ar:objs d=none:=by assumption
     rw [ar] at ag;cases ag
    rw [ct _ _ (ca _ _ (by assumption))] at ak
    clear FT new same gi ad ca
    simp_all
   ·cases h
  ·split at h
   case h_2=>cases h
   split at h
   case h_2=>cases h
   split at h
   case h_2=>cases h
   split at h
   case h_2=>cases h
   split at h
   case isFalse=>cases h
   split at h
   ·split at h
    case h_2=>cases h
    split at h<;>cases h
    exact same (by assumption) (by intro c aj;cases aj)
   ·split at h
    case h_2=>cases h
    split at h<;>cases h
    exact same (by assumption) (by intro c aj;cases aj)
   ·cases h
  ·cases h
theorem abj{T:bW}{ev:Operand→AV}{objs:b8}{d:Key}{o:Op}{r:AV}{b5:List (Key×cq)}(h:fN T ev objs d o=some (r,b5))(gU:∀t a x,o≠ .store t a x):∀j c,objs j=some (.box c)→updO objs b5 j=some (.box c):=by
 obtain ⟨⟨g8,qi⟩,ar,ak⟩:=sV h
 have ad:=abi ar gU
 intro j c aH
 have ae:=ad j c aH
 rcases uQ (T.born d) d g8 qi with e|⟨n,es,rfl,rfl,e⟩|⟨n2,n,es,rfl,rfl,e⟩|⟨off,cs,aF,rfl,rfl,ef,e⟩
 ·rw [ak] at e;cases e;exact ae
 ·rw [ak] at e;cases e
  by_cases ax:j=d
  ·subst ax;simp only [updO,dZ] at ae;cases ae
  ·simp only [updO,ct _ _ ax] at ae⊢;exact ae
 ·rw [ak] at e;cases e
  by_cases ax:j=d
  ·subst ax;simp only [updO,dZ] at ae;cases ae
  ·simp only [updO,ct _ _ ax] at ae⊢;exact ae
 ·rw [ak] at e;cases e
  have aI:objs d=none:=P4 ar
  by_cases ax:j=d
  ·subst ax;rw [aI] at aH;cases aH
  ·simp only [updO,ct _ _ ax];exact aH
section
variable{P:Program}{T:bW}{G:cV}{all:Array Oper}
theorem abk{y:Oper}{σ:St}{K K':St→Prop}(gU:∀t a x,y.op≠ .store t a x)(ai:∀objs r,(∀j c,σ.objs j=some (.box c)→objs j=some (.box c))→K (St.put ⟨σ.aC,objs⟩ y.dst r)→K' (St.put ⟨σ.aC,objs⟩ y.dst r))
  (h:vDo P T G y K σ):vDo P T G y K' σ:=by
 unfold vDo at*
 rw [sY] at*
 cases av:res T G σ y with
 |none=>simp only [av,Option.map_none] at h⊢;exact AO h fun r av=>ai σ.objs r (fun _ _ h=>h) av
 |some p=>
  simp only [av,Option.map_some] at h⊢
  refine ai _ _ ?_ h
  intro j c aH
  obtain ⟨r,b5⟩:=p
  unfold res at av
  split at av
  ·cases av;exact aH
  ·split at av
   ·cases av;exact aH
   ·exact abj av gU j c aH
theorem QE{t a k off:Nat}{σ:St}{x:Oper}(ag:x.op= .load t (.tmp a))(az:σ.aC a= .ptr k off){K:St→Prop}(h:vDo P T G x K σ):
  ∃r,K (σ.put x.dst r)∧∀objs,(∀j c,σ.objs j=some (.box c)→objs j=some (.box c))→res T G ⟨σ.aC,objs⟩ x=some (r,[]):=by
 unfold vDo at h
 rw [sY] at h
 cases av:res T G σ x with
 |none=>
  simp only [av,Option.map_none] at h
  unfold vCall at h
  rw [ag] at h
  exact h.elim
 |some p=>
  simp only [av,Option.map_some] at h
  obtain ⟨r,b5⟩:=p
  unfold res at av
  rw [ag] at av
  simp only [pureOp,memOp,evA,az,fN,effOp0,Option.map_none] at av
  cases a4:T t with
  |none=>simp [a4] at av
  |some i=>
   simp only [a4] at av
   cases ai:σ.objs k with
   |none=>simp [ai] at av
   |some o=>
    cases o with
    |box cells=>
     simp only [ai] at av
     cases aY:sM i cells off with
     |none=>simp [aY] at av
     |some q=>
      simp only [aY,Option.some.injEq,Prod.mk.injEq] at av
      obtain ⟨rfl,rfl⟩:=av
      refine ⟨q,h,fun objs aG=>?_⟩
      unfold res
      rw [ag]
      simp only [pureOp,memOp,evA,az,a4,aG k cells ai,aY]
    |dead=>simp [ai] at av
    |row=>simp [ai] at av
    |map=>simp [ai] at av
theorem QF{x y:Oper}{σ:St}{K:St→Prop}{t a k off:Nat}(ag:x.op= .load t (.tmp a))(kR:x.guard=none)(az:σ.aC a= .ptr k off)(gU:∀t a x,y.op≠ .store t a x)(kO:x.apart all y=true)
  (h:vOp P T G all x (fun fh=>vOp P T G all y K fh) σ):vOp P T G all y (fun eY=>vOp P T G all x K eY) σ:=by
 obtain ⟨ah,aT,bR⟩:=Oper.apart_spec kO
 have mK:∀d,y.dst=some d→x.dst≠some d:=fun d ax ag=>aT d ag ax
 have jF:∀(K:St→Prop) σ,vOp P T G all x K σ=vDo P T G x K σ:=fun K σ=>by unfold vOp;simp only [kR]
 simp only [jF] at h⊢
 obtain ⟨r,ad,ae⟩:=QE ag az h
 have A1:∀(K:St→Prop) objs,(∀j c,σ.objs j=some (.box c)→objs j=some (.box c))→vDo P T G x K ⟨σ.aC,objs⟩=K (St.put ⟨σ.aC,objs⟩ x.dst r):=fun K objs aG=>kr (ae objs aG)
 rw [vOp_eq,mI ah] at ad
 rw [vOp_eq]
 split at ad
 ·rename_i hw
  try simp only [hw]
  rw [hZ ah aT] at ad
  refine abk gU (fun objs q aG ai=>?_) ad
  rw [hZ bR mK,A1 _ _ aG,put_comm aT]
  exact ai
 ·rename_i hw
  try simp only [hw]
  show vDo P T G x K (σ.put y.dst _)
  rw [hZ bR mK]
  have:=A1 (fun aP=>K (aP.put y.dst (.d (.val (.tuple #[]))))) σ.objs (fun _ _ h=>h)
  have e:vDo P T G x (fun aP=>K (aP.put y.dst (.d (.val (.tuple #[]))))) σ=K ((σ.put x.dst r).put y.dst (.d (.val (.tuple #[])))):=this
  rw [e]
  exact ad
 ·exact ad.elim
theorem abl{y:Oper}{σ:St}{K:St→Prop}{a:Nat}(ax:y.dst≠some a)(h:vOp P T G all y K σ):vOp P T G all y (fun aP=>aP.aC a=σ.aC a∧K aP) σ:=by
 have aY:∀(objs:b8) (r:AV),(St.put ⟨σ.aC,objs⟩ y.dst r).aC a=σ.aC a:=fun objs r=>by
  cases aN:y.dst with
  |none=>rfl
  |some d=>
   have:a≠d:=by rintro rfl;exact ax aN
   simp only [St.put,ct _ _ this]
 rw [vOp_eq] at h⊢
 split at h
 ·rename_i hw
  try simp only [hw]
  exact s5 (fun objs r ai=>⟨aY objs r,ai⟩) h
 ·rename_i hw
  try simp only [hw]
  exact ⟨aY σ.objs _,h⟩
 ·exact h.elim
theorem abm{K:St→Prop}{i:Nat}{ej:Oper}{t a k off:Nat}(af:all[i]?=some ej)(ag:ej.op= .load t (.tmp a))(kR:ej.guard=none){B:List Nat}(fx:∀j cF,j∈B→all[j]?=some cF→∃e∈cF.after,Region.binds .any e=true∧(e.on=i∨e.on∈B)):∀(fuel:Nat) (listed:Array Bool) (σ:St),σ.aC a= .ptr k off→
  (∀j,j∈B→listed.getD j true=false)→
  (∀j cF,all[j]?=some cF→j≠i→listed.getD j true=false→j∉B→ej.apart all cF=true∧∀t a x,cF.op≠ .store t a x)→
  i∈Region.ready .any all listed→amOp P T G all i (hO P T G all K fuel (listed.setIfInBounds i true)) σ→hO P T G all K (fuel+1) listed σ:=by
 intro fuel
 induction fuel with
 |zero=>
  intro listed σ cx oY mL av H
  refine ⟨fun h=>(by rw [h] at av;cases av),fun j aH=>?_⟩
  by_cases hP:j=i
  ·subst hP;exact H
  ·have hm:=ready_mono aH hP
   exfalso
   have key:Region.ready .any all (listed.setIfInBounds i true)=[]:=by
    unfold amOp at H
    simp only [af] at H
    unfold vOp at H
    simp only [kR] at H
    obtain ⟨r,ad,_⟩:=QE ag cx H
    exact ad.1
   rw [key] at hm;cases hm
 |succ fuel ih=>
  intro listed σ cx oY mL av H
  refine ⟨fun h=>(by rw [h] at av;cases av),fun j aH=>?_⟩
  by_cases hP:j=i
  ·subst hP;exact H
  ·obtain ⟨s7,cF,hQ,ft⟩:=mem_ready.1 aH
   have ry:∀k,listed.getD k true=false→listed[k]?.getD false=true→False:=fun k ar ad=>by
    rcases Nat.lt_or_ge k listed.size with bm|bm
    ·simp [bm] at ar ad;rw [ar] at ad;cases ad
    ·simp [Array.getElem?_eq_none bm] at ad
   have s8:j∉B:=fun AW=>by
    obtain ⟨e,he,ak,kP⟩:=fx j cF AW hQ
    have ad:=ft e he ak
    rcases kP with kP|kP
    ·rw [kP] at ad
     exact ry i (mem_ready.1 av).1 (by simpa using ad)
    ·exact ry _ (oY _ kP) (by simpa using ad)
   obtain ⟨eG,dR⟩:=mL j cF hQ hP s7 s8
   have ad:amOp P T G all i (fun fh=>amOp P T G all j (hO P T G all K fuel ((listed.setIfInBounds i true).setIfInBounds j true)) fh) σ:=s6 (fun fh rG=>rG.2 j (ready_mono aH hP)) H
   have Kh:cF.dst≠some a:=fun ax=>by
    obtain ⟨_,_,bR⟩:=Oper.apart_spec eG
    refine bR a ax ?_
    unfold Oper.looksAt
    rw [ag]
    simp [Op.operands]
   have ae:amOp P T G all j (fun eY=>eY.aC a=σ.aC a∧amOp P T G all i (hO P T G all K fuel ((listed.setIfInBounds i true).setIfInBounds j true)) eY) σ:=by
    unfold amOp at ad⊢
    simp only [af,hQ] at ad⊢
    exact abl Kh (QF ag kR cx dR eG ad)
   have AX:∀k ok,all[k]?=some ok→k≠i→(listed.setIfInBounds j true).getD k true=false→
     k∉B→ej.apart all ok=true∧∀t a x,ok.op≠ .store t a x:=fun k ok ai oZ mM gU=>by
    refine mL k ok ai oZ ?_ gU
    by_cases fg:j=k
    ·subst fg;exact s7
    ·rw [getD_set_ne true fg] at mM;exact mM
   refine s6 (fun eY ay=>ih (listed.setIfInBounds j true) eY (ay.1.trans cx) (fun k ai=>by
    have fg:j≠k:=by rintro rfl;exact s8 ai
    rw [getD_set_ne true fg];exact oY k ai) AX (ready_mono av (Ne.symm hP)) ?_) ae
   rw [Array.setIfInBounds_comm _ _ hP]
   exact ay.2
end
end Go.Am
namespace Go.Am
set_option linter.unusedVariables false
section
variable{P:Program}{T:bW}{G:cV}{all:Array Oper}
def keyA:AV→Option Key
 | .ptr k _=>some k
 | .fc k _ _ _=>some k
 |_=>none
def keyOf(aC:Nat→AV):Operand→Option Key
 | .tmp a=>keyA (aC a)
 |_=>none
theorem Ki{aC:Nat→AV}(x:Operand):keyA (evA G aC x)=keyOf aC x:=by
 cases x with
 |tmp a=>rfl
 |const v=>rfl
 |func f=>rfl
 |global g=>
  simp only [evA,keyOf]
  split<;>rfl
def isD(aC:Nat→AV):Operand→Bool
 | .tmp a=>match aC a with
  | .d _=>true
  |_=>false
 | .const _=>true
 |_=>false
def isStoreK(aC:Nat→AV)(k:Key):Op→Bool
 | .store _ a _=>match keyOf aC a with
  |some bg=>bg !=k
  |none=>false
 |_=>false
def FU:Op→Bool
 | .store _ _ _=>true
 |_=>false
def isBx(aC:Nat→AV):Operand→Bool
 | .tmp a=>match aC a with
  | .ptr _ _=>true
  |_=>false
 |_=>false
def abn:AV→Bool
 | .d _=>true
 | .dP _ _=>true
 |_=>false
def od(aC:Nat→AV):Operand→Bool
 | .tmp a=>abn (aC a)
 |_=>false
def dataOp(aC:Nat→AV):Op→Bool
 | .load _ a=>od aC a
 | .indexAddr _ x _=>od aC x
 | .lookup _ m _ _=>od aC m
 | .slice _ x _ _ none=>od aC x
 | .call ⟨.builtin .len,args,_⟩=>args.toList.all (od aC)
 |_=>false
def okPair(aC:Nat→AV)(x y:Oper):Bool:=pass x y||dataOp aC x.op||match x.op with
 | .binOp _ _ a b _=>isD aC a&&isD aC b
 | .load _ a=>match keyOf aC a with
  |some k=>(isBx aC a&&!FU y.op)||hj y.op||hN y.op||gh y.op||isStoreK aC k y.op
  |none=>false
 | .indexAddr _ _ _=>hj y.op||hN y.op||gh y.op||FU y.op
 | .store _ a _=>match keyOf aC a with
  |some k=>isStoreK aC k y.op
  |none=>false
 |_=>false
def Kj(k:Key)(o o':b8):Prop:=o' k=o k
def ym(o o':b8):Prop:=∀k n es,o k=some (.row n es)→∃g6,o' k=some (.row n g6)∧g6.length=es.length
theorem abo{y:Oper}{σ:St}{K K':St→Prop}{dQ:b8→Prop}(ar:dQ σ.objs)(gM:∀r b5,res T G σ y=some (r,b5)→dQ (updO σ.objs b5))(ai:∀objs r,dQ objs→K (St.put ⟨σ.aC,objs⟩ y.dst r)→K' (St.put ⟨σ.aC,objs⟩ y.dst r))
  (h:vDo P T G y K σ):vDo P T G y K' σ:=by
 unfold vDo at*
 rw [sY] at*
 cases av:res T G σ y with
 |none=>simp only [av,Option.map_none] at h⊢;exact AO h fun r av=>ai σ.objs r ar av
 |some p=>
  simp only [av,Option.map_some] at h⊢
  obtain ⟨r,b5⟩:=p
  exact ai _ _ (gM r b5 av) h
theorem QG{σ:St}{y:Oper}(h:(hj y.op||hN y.op||gh y.op)=true){r:AV}{b5:List (Key×cq)}(av:res T G σ y=some (r,b5)):b5=[]:=by
 unfold res at av
 split at av
 ·cases av;rfl
 ·split at av
  ·cases av;rfl
  ·simp only [Bool.or_eq_true] at h
   rcases h with(h|h)|h
   ·rw [(yb h).2] at av;cases av
   ·rw [yc h] at av;cases av
   ·rw [(J3 (T:=T) (ev:=evA G σ.aC) (objs:=σ.objs) (d:=y.dst.getD 9999) h).2.2] at av;cases av
theorem Kk{σ:St}{y:Oper}{t:TypeId}{a x:Operand}(aN:y.op= .store t a x){r:AV}{b5:List (Key×cq)}(av:res T G σ y=some (r,b5)):
  ∃k o o',keyOf σ.aC a=some k∧b5=[(k,o')]∧σ.objs k=some o∧((∃c hg,o= .box c∧o'= .box hg)∨∃n es g6,o= .row n es∧o'= .row n g6∧g6.length=es.length):=by
 rw [←Ki (G:=G)]
 unfold res at av
 rw [aN] at av
 simp only [pureOp,memOp,PU,effOp0] at av
 split at av
 case h_2=>cases av
 split at av
 case isFalse=>cases av
 split at av
 ·rename_i k off he
  split at av
  case h_2=>cases av
  rename_i cells aG
  split at av<;>cases av
  exact ⟨k,_,_,by rw [he];rfl,rfl,aG,.inl ⟨_,_,rfl,rfl⟩⟩
 ·rename_i k cw en off he
  split at av
  case h_2=>cases av
  rename_i bg es aF aG ax
  split at av
  case isFalse=>cases av
  rename_i aj
  split at av<;>cases av
  exact ⟨k,_,_,by rw [he];rfl,rfl,aG,.inr ⟨cw,es,_,by rw [aj.1],rfl,by simp⟩⟩
 ·cases av
theorem A2{objs:b8}{k:Key}{o:cq}(j:Key):updO objs [(k,o)] j=if j=k then some o else objs j:=by
 by_cases h:j=k
 ·subst h;simp [updO,dZ]
 ·simp [updO,ct _ _ h,h]
theorem abp{σ:St}{y:Oper}{k:Key}(h:(hj y.op||hN y.op||gh y.op||isStoreK σ.aC k y.op)=true){r:AV}{b5:List (Key×cq)}(av:res T G σ y=some (r,b5)):Kj k σ.objs (updO σ.objs b5):=by
 rcases Bool.or_eq_true_iff.1 h with h|h
 ·rw [QG h av];rfl
 ·unfold isStoreK at h
  split at h
  case h_2=>cases h
  rename_i t a x aN
  obtain ⟨bg,o,o',ad,rfl,ae,_⟩:=Kk aN av
  rw [ad] at h
  simp only [bne_iff_ne,ne_eq] at h
  show updO σ.objs [(bg,o')] k=σ.objs k
  rw [A2,if_neg (fun e=>h e.symm)]
theorem ym.refl(o:b8):ym o o:=fun k n es h=>⟨es,h,rfl⟩
theorem abq{σ:St}{y:Oper}(h:(hj y.op||hN y.op||gh y.op||FU y.op)=true){r:AV}{b5:List (Key×cq)}(av:res T G σ y=some (r,b5)):ym σ.objs (updO σ.objs b5):=by
 rcases Bool.or_eq_true_iff.1 h with h|h
 ·rw [QG h av];exact ym.refl _
 ·unfold FU at h
  split at h
  case h_2=>cases h
  rename_i t a x aN
  obtain ⟨bg,o,o',ad,rfl,ae,ay⟩:=Kk aN av
  intro k n es ai
  rw [A2]
  by_cases e:k=bg
  ·subst e
   rw [if_pos rfl]
   rw [ae] at ai
   rcases ay with⟨c,hg,rfl,rfl⟩|⟨m,asB,abr,rfl,rfl,aq⟩
   ·cases ai
   ·cases ai;exact ⟨abr,rfl,aq⟩
  ·rw [if_neg e];exact ⟨es,ai,rfl⟩
def Looks(T:bW)(G:cV)(x:Oper)(aC:Nat→AV)(o:b8)(dQ:b8→Prop):Prop:=∀r b5,res T G ⟨aC,o⟩ x=some (r,b5)→b5=[]∧∀o',dQ o'→res T G ⟨aC,o'⟩ x=some (r,[])
theorem FV{x y:Oper}{σ:St}{K:St→Prop}{dQ:b8→Prop}(kR:x.guard=none)(AQ:gh x.op=false)(kO:x.apart all y=true)(aq:Looks T G x σ.aC σ.objs dQ)(ar:dQ σ.objs)(gM:∀r b5,res T G σ y=some (r,b5)→dQ (updO σ.objs b5))
  (h:vOp P T G all x (fun fh=>vOp P T G all y K fh) σ):vOp P T G all y (fun eY=>vOp P T G all x K eY) σ:=by
 obtain ⟨ah,aT,bR⟩:=Oper.apart_spec kO
 have mK:∀d,y.dst=some d→x.dst≠some d:=fun d ax ag=>aT d ag ax
 have jF:∀(K:St→Prop) σ,vOp P T G all x K σ=vDo P T G x K σ:=fun K σ=>by unfold vOp;simp only [kR]
 simp only [jF] at h⊢
 have Jy:res T G σ x≠none:=by
  intro aI
  rw [lT aI] at h
  have:=uU h
  rw [AQ] at this;cases this
 obtain ⟨p,aY⟩:=Option.ne_none_iff_exists'.1 Jy
 obtain ⟨r,b5⟩:=p
 obtain ⟨rfl,ae⟩:=aq r b5 aY
 have ad:vOp P T G all y K (σ.put x.dst r):=by
  rw [kr aY] at h;exact h
 have A1:∀(K:St→Prop) objs,dQ objs→vDo P T G x K ⟨σ.aC,objs⟩=K (St.put ⟨σ.aC,objs⟩ x.dst r):=fun K objs aG=>kr (ae objs aG)
 rw [vOp_eq,mI ah] at ad
 rw [vOp_eq]
 split at ad
 ·rename_i hw
  try simp only [hw]
  rw [hZ ah aT] at ad
  refine abo ar gM (fun objs q aG ai=>?_) ad
  rw [hZ bR mK,A1 _ _ aG,put_comm aT]
  exact ai
 ·rename_i hw
  try simp only [hw]
  show vDo P T G x K (σ.put y.dst _)
  rw [hZ bR mK]
  have e:vDo P T G x (fun aP=>K (aP.put y.dst (.d (.val (.tuple #[]))))) σ=K ((σ.put x.dst r).put y.dst (.d (.val (.tuple #[])))):=A1 (fun aP=>K (aP.put y.dst (.d (.val (.tuple #[]))))) σ.objs ar
  rw [e]
  exact ad
 ·exact ad.elim
theorem QH{aC:Nat→AV}{x:Operand}(h:isD aC x=true):∃d,evA G aC x= .d d:=by
 unfold isD at h
 split at h
 ·split at h
  ·rename_i d ax;exact ⟨d,ax⟩
  ·cases h
 ·exact ⟨_,rfl⟩
 ·cases h
theorem abt(o o':b8)(x:D):someS o (.d x)=someS o' (.d x):=by
 unfold someS
 split<;>first|rfl|(rename_i h;cases h)|skip
 all_goals rfl
theorem A3{aC:Nat→AV}{x:Operand}(h:od aC x=true):(∃d,evA G aC x= .d d)∨∃cs off,evA G aC x= .dP cs off:=by
 cases x with
 |tmp a=>
  simp only [od] at h
  show(∃d,aC a= .d d)∨∃cs off,aC a= .dP cs off
  generalize aC a=v at h
  cases v<;>first|exact .inl ⟨_,rfl⟩|exact .inr ⟨_,_,rfl⟩|cases h
 |_=>cases h
theorem QI(o o':b8)(x:D):lenA o (.d x)=lenA o' (.d x):=by
 unfold lenA
 split<;>first|rfl|(rename_i h;cases h)|skip
 all_goals rfl
theorem abu(o o':b8)(cs:List D)(off:Nat):lenA o (.dP cs off)=lenA o' (.dP cs off):=rfl
theorem abv{aC:Nat→AV}{op:Op}(h:dataOp aC op=true)(o o':b8):memOp T (evA G aC) o op=memOp T (evA G aC) o' op:=by
 cases op<;>simp only [dataOp,Bool.false_eq_true] at h
 case load t a=>
  rcases A3 (G:=G) h with⟨d,e⟩|⟨cs,off,e⟩<;>simp only [memOp,e]
 case indexAddr t x i=>
  rcases A3 (G:=G) h with⟨d,e⟩|⟨cs,off,e⟩
  ·simp only [memOp,e]
   cases d<;>rfl
  ·simp only [memOp,e]
 case lookup t m k ok=>
  rcases A3 (G:=G) h with⟨d,e⟩|⟨cs,off,e⟩
  ·simp only [memOp,e]
   split
   ·cases d<;>first|rfl|skip
    rename_i v
    cases v<;>first|rfl|skip
    rename_i q
    cases q<;>rfl
   ·rfl
  ·simp only [memOp,e]
 case slice t x lo af eX=>
  cases eX with
  |some _=>cases h
  |none=>
   simp only at h
   rcases A3 (G:=G) h with⟨d,e⟩|⟨cs,off,e⟩
   ·simp only [memOp,e,QI o o' d]
    cases d<;>rfl
   ·simp only [memOp,e,abu o o' cs off]
 case call c=>
  obtain ⟨callee,args,df⟩:=c
  cases callee with
  |value=>rfl
  |invoke=>rfl
  |builtin b=>
   cases b<;>first|rfl|skip
   simp only at h
   simp only [memOp]
   split
   ·rename_i t x aS aV
    rw [aV] at h
    simp only [List.all_cons,List.all_nil,Bool.and_true] at h
    rcases A3 (G:=G) h with⟨d,e⟩|⟨cs,off,e⟩
    ·simp only [e]
     cases a4:T t with
     |none=>rfl
     |some i=>
      obtain ⟨aF,s,b,z⟩:=i
      cases aF
      case map k q=>
       cases d
       case val v=>
        cases v
        case map r=>cases r<;>rfl
        all_goals rfl
       all_goals rfl
      case slice q=>simp only [QI o o' d]
      case string=>
       cases d
       case val v=>cases v<;>rfl
       all_goals rfl
      all_goals rfl
    ·simp only [e]
     cases a4:T t with
     |none=>rfl
     |some i=>
      obtain ⟨aF,s,b,z⟩:=i
      cases aF<;>rfl
   ·rfl
theorem QJ{aC:Nat→AV}{op:Op}(h:dataOp aC op=true):hN op=true:=by
 cases op<;>simp only [dataOp,Bool.false_eq_true] at h<;>first|rfl|skip
 case call c=>
  obtain ⟨callee,args,df⟩:=c
  cases callee with
  |value=>cases h
  |invoke=>cases h
  |builtin b=>cases b<;>first|rfl|cases h
theorem abw{x:Oper}{aC:Nat→AV}{o:b8}(h:dataOp aC x.op=true):Looks T G x aC o (fun _=>True):=by
 intro r b5 av
 have hm:=QJ h
 unfold res at av
 split at av
 ·rename_i u hu
  cases av
  refine ⟨rfl,fun o' _=>?_⟩
  unfold res
  simp only [hu]
 ·rename_i aY
  split at av
  ·rename_i u hu
   cases av
   refine ⟨rfl,fun o' _=>?_⟩
   unfold res
   simp only at hu
   simp only [aY,abv h o' o,hu]
  ·rw [yc hm] at av;cases av
theorem abx{x:Oper}{op:BinOp}{t:TypeId}{a b:Operand}{q:TypeId}(ag:x.op= .binOp op t a b q){aC:Nat→AV}{o:b8}(aB:isD aC a=true)(ak:isD aC b=true):Looks T G x aC o (fun _=>True):=by
 intro r b5 av
 obtain ⟨d1,aS⟩:=QH (G:=G) aB
 obtain ⟨d2,aV⟩:=QH (G:=G) ak
 unfold res at av
 rw [ag] at av
 cases aY:pureOp T (evA G aC) (.binOp op t a b q) with
 |some u=>
  rw [aY] at av
  cases av
  refine ⟨rfl,fun o' _=>?_⟩
  unfold res
  rw [ag,aY]
 |none=>
  rw [aY] at av
  simp only at av
  have hm:∀o',memOp T (evA G aC) o' (.binOp op t a b q)=memOp T (evA G aC) o (.binOp op t a b q):=by
   intro o'
   simp only [memOp,aS,aV,abt o' o]
  cases gd:memOp T (evA G aC) o (.binOp op t a b q) with
  |some u=>
   rw [gd] at av
   cases av
   refine ⟨rfl,fun o' _=>?_⟩
   unfold res
   rw [ag,aY]
   simp only [hm o',gd]
  |none=>rw [gd] at av;simp [fN,effOp0] at av
theorem aby{x:Oper}{t:TypeId}{a:Operand}{k:Key}(ag:x.op= .load t a){aC:Nat→AV}{o:b8}(aB:keyOf aC a=some k):Looks T G x aC o (Kj k o):=by
 intro r b5 av
 have he:keyA (evA G aC a)=some k:=by rw [Ki];exact aB
 unfold res at av
 rw [ag] at av
 simp only [pureOp] at av
 have hm:∀o',o' k=o k→memOp T (evA G aC) o' (.load t a)=memOp T (evA G aC) o (.load t a):=by
  intro o' aG
  simp only [memOp]
  generalize evA G aC a=v at he⊢
  cases v<;>simp only [keyA,reduceCtorEq,Option.some.injEq] at he
  ·subst he;simp only [aG]
  ·subst he;simp only [aG]
 cases gd:memOp T (evA G aC) o (.load t a) with
 |some u=>
  rw [gd] at av
  cases av
  refine ⟨rfl,fun o' aG=>?_⟩
  unfold res
  rw [ag]
  simp only [pureOp,hm o' aG,gd]
 |none=>rw [gd] at av;simp [fN,effOp0] at av
theorem abz{x:Oper}{t:TypeId}{a b:Operand}(ag:x.op= .indexAddr t a b){aC:Nat→AV}{o:b8}:Looks T G x aC o (ym o):=by
 intro r b5 av
 unfold res at av
 rw [ag] at av
 simp only [pureOp] at av
 cases gd:memOp T (evA G aC) o (.indexAddr t a b) with
 |some u=>
  rw [gd] at av
  cases av
  refine ⟨rfl,fun o' aG=>?_⟩
  have hm:memOp T (evA G aC) o' (.indexAddr t a b)=some r:=by
   simp only [memOp] at gd⊢
   split at gd
   ·split at gd
    ·split at gd
     ·rename_i aI
      rw [if_pos aI]
      split at gd<;>first|exact gd|skip
      rename_i key aM
      cases ai:o key with
      |none=>rw [ai] at gd;cases gd
      |some gB=>
       cases gB with
       |row k es=>
        obtain ⟨g6,ad,ae⟩:=aG key k es ai
        rw [ai] at gd
        rw [ad]
        simp only [ae] at gd⊢
        exact gd
       |dead=>rw [ai] at gd;cases gd
       |box=>rw [ai] at gd;cases gd
       |map=>rw [ai] at gd;cases gd
     ·cases gd
    ·cases gd
   ·exact gd
   ·cases gd
  unfold res
  rw [ag]
  simp only [pureOp,hm]
 |none=>rw [gd] at av;simp [fN,effOp0] at av
theorem abA{o:b8}{k bg:Key}{a b:cq}(h:k≠bg):updO (updO o [(k,a)]) [(bg,b)]=updO (updO o [(bg,b)]) [(k,a)]:=by
 funext j
 simp only [A2]
 by_cases ad:j=k<;>by_cases ae:j=bg<;>simp_all
theorem QK{y:Oper}{t:TypeId}{a x:Operand}{k:Key}(aN:y.op= .store t a x){aC:Nat→AV}{o o':b8}(aB:keyOf aC a=some k)(aG:o' k=o k):res T G ⟨aC,o'⟩ y=res T G ⟨aC,o⟩ y:=by
 have he:keyA (evA G aC a)=some k:=by rw [Ki];exact aB
 unfold res
 rw [aN]
 simp only [pureOp,memOp,PU,effOp0]
 generalize evA G aC a=v at he⊢
 cases v<;>simp only [keyA,reduceCtorEq,Option.some.injEq] at he
 ·subst he;simp only [aG]
 ·subst he;simp only [aG]
theorem abB{x y:Oper}{σ:St}{K:St→Prop}{t t':TypeId}{a cu v iM:Operand}{k bg:Key}(ag:x.op= .store t a v)(aN:y.op= .store t' cu iM)(aB:keyOf σ.aC a=some k)(A4:keyOf σ.aC cu=some bg)(ca:bg≠k)
  (kR:x.guard=none) (kO:x.apart all y=true) (h:vOp P T G all x (fun fh=>vOp P T G all y K fh) σ):vOp P T G all y (fun eY=>vOp P T G all x K eY) σ:=by
 obtain ⟨ah,aT,bR⟩:=Oper.apart_spec kO
 have mK:∀d,y.dst=some d→x.dst≠some d:=fun d ax ag=>aT d ag ax
 have jF:∀(K:St→Prop) σ,vOp P T G all x K σ=vDo P T G x K σ:=fun K σ=>by unfold vOp;simp only [kR]
 simp only [jF] at h⊢
 have QL:∀{z:Oper} {tt:TypeId} {p q:Operand} {τ:St} {K':St→Prop},z.op= .store tt p q→vDo P T G z K' τ→∃r cg fP,res T G τ z=some (r,[(cg,fP)])∧keyOf τ.aC p=some cg∧K' (τ.step z.dst r [(cg,fP)]):=by
  intro z tt p q τ K' bN bu
  cases av:res T G τ z with
  |none=>
   rw [lT av] at bu
   have:=uU bu
   rw [bN] at this;cases this
  |some u=>
   obtain ⟨r,b5⟩:=u
   obtain ⟨cg,o,fP,br,rfl,_,_⟩:=Kk bN av
   exact ⟨r,cg,fP,rfl,br,by rw [kr av] at bu;exact bu⟩
 obtain ⟨r,cg,fP,br,bo,bT⟩:=QL ag h
 rw [aB] at bo;cases bo
 have u4:vOp P T G all y K (St.put ⟨σ.aC,updO σ.objs [(k,fP)]⟩ x.dst r):=bT
 have QM:∀(lx:b8),lx k=σ.objs k→∀K':St→Prop,vDo P T G x K' ⟨σ.aC,lx⟩=K' (St.put ⟨σ.aC,updO lx [(k,fP)]⟩ x.dst r):=by
  intro lx aG K'
  have:res T G ⟨σ.aC,lx⟩ x=some (r,[(k,fP)]):=by rw [QK ag aB aG];exact br
  exact kr this
 rw [vOp_eq,mI ah] at u4
 rw [vOp_eq]
 have abC:wantA all ⟨σ.aC,updO σ.objs [(k,fP)]⟩ y=wantA all σ y:=rfl
 rw [abC] at u4
 split at u4
 ·rename_i hw
  try simp only [hw]
  rw [hZ ah aT] at u4
  obtain ⟨fo,dK,lx,eG,dR,gH⟩:=QL aN u4
  have QN:keyOf σ.aC cu=some dK:=dR
  rw [A4] at QN;cases QN
  have abD:res T G σ y=some (fo,[(bg,lx)]):=by
   rw [←eG]
   exact (QK (T:=T) (G:=G) aN (o:=σ.objs) (o':=updO σ.objs [(k,fP)]) A4 (by rw [A2,if_neg ca])).symm
  rw [kr abD]
  show vDo P T G x K (St.put ⟨σ.aC,updO σ.objs [(bg,lx)]⟩ y.dst fo)
  rw [hZ bR mK,QM _ (by rw [A2,if_neg (fun e=>ca e.symm)]),put_comm aT,abA ca]
  exact gH
 ·rename_i hw
  try simp only [hw]
  show vDo P T G x K (σ.put y.dst _)
  rw [hZ bR mK]
  have e:=QM σ.objs rfl (fun aP=>K (aP.put y.dst (.d (.val (.tuple #[])))))
  have cX:vDo P T G x (fun aP=>K (aP.put y.dst (.d (.val (.tuple #[]))))) σ=_:=e
  rw [cX]
  exact u4
 ·exact u4.elim
theorem abE{x y:Oper}{σ:St}{K:St→Prop}(kR:x.guard=none)(kO:x.apart all y=true)(h:okPair σ.aC x y=true)(H:vOp P T G all x (fun fh=>vOp P T G all y K fh) σ):
  vOp P T G all y (fun eY=>vOp P T G all x K eY) σ:=by
 unfold okPair at h
 rcases Bool.or_eq_true_iff.1 h with h|h
 ·rcases Bool.or_eq_true_iff.1 h with h|h
  ·exact swap kO h H
  ·refine FV kR ?_ kO (abw h) trivial (fun _ _ _=>trivial) H
   cases aj:gh x.op with
   |false=>rfl
   |true=>have:=AN aj;rw [QJ h] at this;cases this.2.1
 split at h
 ·rename_i op t a b q ag
  rw [Bool.and_eq_true] at h
  exact FV kR (by rw [ag];rfl) kO (abx ag h.1 h.2) trivial (fun _ _ _=>trivial) H
 ·rename_i t a ag
  split at h
  case h_2=>cases h
  rename_i k ai
  simp only [Bool.or_eq_true] at h
  have other:(hj y.op||hN y.op||gh y.op||isStoreK σ.aC k y.op)=true→vOp P T G all y (fun eY=>vOp P T G all x K eY) σ:=fun bm=>
   FV kR (by rw [ag];rfl) kO (aby ag ai) (rfl:Kj k σ.objs σ.objs) (fun _ _ av=>abp bm av) H
  rcases h with(((h|h)|h)|h)|h
  ·rw [Bool.and_eq_true] at h
   obtain ⟨ad,ae⟩:=h
   unfold isBx at ad
   split at ad
   case h_2=>cases ad
   rename_i ab
   split at ad
   case h_2=>cases ad
   rename_i yn off az
   refine QF ag kR az ?_ kO H
   intro t' cu iM he
   rw [he] at ae
   cases ae
  ·exact other (by simp [h])
  ·exact other (by simp [h])
  ·exact other (by simp [h])
  ·exact other (by simp [h])
 ·rename_i t a b ag
  exact FV kR (by rw [ag];rfl) kO (abz ag) (ym.refl _) (fun _ _ av=>abq h av) H
 ·rename_i t a v ag
  split at h
  case h_2=>cases h
  rename_i k ai
  unfold isStoreK at h
  split at h
  case h_2=>cases h
  rename_i t' cu iM aN
  split at h
  case h_2=>cases h
  rename_i bg eR
  exact abB ag aN ai eR (by simpa using h) kR kO H
 ·cases h
def xT:Op→List Tmp
 | .binOp _ _ a b _=>(match a with| .tmp t=>[t]|_=>[])++(match b with| .tmp t=>[t]|_=>[])
 | .load _ (.tmp a)=>[a]
 | .store _ (.tmp a) _=>[a]
 | .indexAddr _ (.tmp a) _=>[a]
 | .lookup _ (.tmp a) _ _=>[a]
 | .slice _ (.tmp a) _ _ _=>[a]
 | .call ⟨.builtin .len,args,_⟩=>args.toList.filterMap fun x=>match x with| .tmp t=>some t|_=>none
 |_=>[]
def addrT:Op→List Tmp
 | .store _ (.tmp a) _=>[a]
 |_=>[]
theorem Kl{s s':Nat→AV}{x:Operand}(h:∀t,x= .tmp t→s t=s' t):keyOf s x=keyOf s' x:=by
 cases x with
 |tmp t=>simp only [keyOf,h t rfl]
 |_=>rfl
theorem QO{s s':Nat→AV}{x:Operand}(h:∀t,x= .tmp t→s t=s' t):isD s x=isD s' x:=by
 cases x with
 |tmp t=>simp only [isD,h t rfl]
 |_=>rfl
theorem abF{s s':Nat→AV}{x:Operand}(h:∀t,x= .tmp t→s t=s' t):isBx s x=isBx s' x:=by
 cases x with
 |tmp t=>simp only [isBx,h t rfl]
 |_=>rfl
theorem abG{s s':Nat→AV}{x y:Oper}(h:∀t,t∈xT x.op∨t∈addrT y.op→s t=s' t):okPair s x y=okPair s' x y:=by
 have aN:∀k,isStoreK s k y.op=isStoreK s' k y.op:=by
  intro k
  unfold isStoreK
  split
  ·rename_i t a v he
   rw [Kl (s:=s) (s':=s') (x:=a) (fun q bL=>h q (.inr (by rw [he,bL];simp [addrT])))]
  ·rfl
 have ax:dataOp s x.op=dataOp s' x.op:=by
  have ag:∀t,t∈xT x.op→s t=s' t:=fun t aE=>h t (.inl aE)
  generalize x.op=op at ag
  have one:∀a:Operand,(∀t,a= .tmp t→t∈xT op)→od s a=od s' a:=by
   intro a aB
   cases a with
   |tmp t=>simp only [od,ag t (aB t rfl)]
   |_=>rfl
  cases op<;>simp only [dataOp]
  case load t a=>exact one a (by rintro t rfl;simp [xT])
  case indexAddr t a i=>exact one a (by rintro t rfl;simp [xT])
  case lookup t a k ok=>exact one a (by rintro t rfl;simp [xT])
  case slice t a lo af eX=>
   cases eX with
   |none=>exact one a (by rintro t rfl;simp [xT])
   |some _=>rfl
  case call c=>
   obtain ⟨callee,args,df⟩:=c
   cases callee with
   |value=>rfl
   |invoke=>rfl
   |builtin b=>
    cases b<;>first|rfl|skip
    simp only
    rw [Bool.eq_iff_iff,List.all_eq_true,List.all_eq_true]
    have aB:∀a∈args.toList,od s a=od s' a:=fun a aB=>one a (by rintro t rfl;simp only [xT,List.mem_filterMap];exact ⟨_,aB,rfl⟩)
    exact ⟨fun h a hm=>by rw [←aB a hm];exact h a hm,fun h a hm=>by rw [aB a hm];exact h a hm⟩
 unfold okPair
 rw [ax]
 congr 1
 split
 ·rename_i op t a b q ag
  have aB:∀t,a= .tmp t→s t=s' t:=fun t aE=>h t (.inl (by rw [ag,aE];simp [xT]))
  have ak:∀t,b= .tmp t→s t=s' t:=fun t aE=>h t (.inl (by rw [ag,aE];simp [xT]))
  rw [QO aB,QO ak]
 ·rename_i t a ag
  have aB:∀t,a= .tmp t→s t=s' t:=fun t aE=>h t (.inl (by rw [ag,aE];simp [xT]))
  rw [Kl aB,abF aB]
  split
  ·rw [aN]
  ·rfl
 ·rfl
 ·rename_i t a v ag
  have aB:∀t,a= .tmp t→s t=s' t:=fun t aE=>h t (.inl (by rw [ag,aE];simp [xT]))
  rw [Kl aB]
  split
  ·rw [aN]
  ·rfl
 ·rfl
theorem abH{y:Oper}{σ:St}{K:St→Prop}{L:List Tmp}(ax:∀a∈L,y.dst≠some a)(h:vOp P T G all y K σ):vOp P T G all y (fun aP=>(∀a∈L,aP.aC a=σ.aC a)∧K aP) σ:=by
 have aY:∀(objs:b8) (r:AV),∀a∈L,(St.put ⟨σ.aC,objs⟩ y.dst r).aC a=σ.aC a:=fun objs r a aB=>by
  cases aN:y.dst with
  |none=>rfl
  |some d=>
   have:a≠d:=by rintro rfl;exact ax a aB aN
   simp only [St.put,ct _ _ this]
 rw [vOp_eq] at h⊢
 split at h
 ·rename_i hw
  try simp only [hw]
  exact s5 (fun objs r ai=>⟨aY objs r,ai⟩) h
 ·rename_i hw
  try simp only [hw]
  exact ⟨aY σ.objs _,h⟩
 ·exact h.elim
theorem abI{x:Oper}{σ:St}{p:Prop}(h:vOp P T G all x (fun _=>p) σ):p:=by
 rw [vOp_eq] at h
 split at h
 ·unfold vDo at h
  split at h
  ·exact h
  ·unfold vCall at h
   split at h
   ·split at h
    ·obtain ⟨_,_,_,_,_,_,⟨r,lU⟩,_,q⟩:=h
     exact q r (by rw [lU])
    ·exact h.elim
   ·exact h.elim
 ·exact h
 ·exact h.elim
theorem abJ{K:St→Prop}{i:Nat}{ej:Oper}(af:all[i]?=some ej)(kR:ej.guard=none){B:List Nat}(fx:∀j cF,j∈B→all[j]?=some cF→∃e∈cF.after,Region.binds .any e=true∧(e.on=i∨e.on∈B)){s0:Nat→AV}{L:List Tmp}(abK:∀t∈xT ej.op,t∈L):
  ∀(fuel:Nat) (listed:Array Bool) (σ:St),(∀t∈L,σ.aC t=s0 t)→
  (∀j,j∈B→listed.getD j true=false)→
  (∀j cF,all[j]?=some cF→j≠i→listed.getD j true=false→j∉B→ej.apart all cF=true∧okPair s0 ej cF=true∧(∀t∈L,cF.dst≠some t)∧∀t∈addrT cF.op,t∈L)→
  i∈Region.ready .any all listed→amOp P T G all i (hO P T G all K fuel (listed.setIfInBounds i true)) σ→hO P T G all K (fuel+1) listed σ:=by
 intro fuel
 induction fuel with
 |zero=>
  intro listed σ cx oY mL av H
  refine ⟨fun h=>(by rw [h] at av;cases av),fun j aH=>?_⟩
  by_cases hP:j=i
  ·subst hP;exact H
  ·have hm:=ready_mono aH hP
   exfalso
   have key:Region.ready .any all (listed.setIfInBounds i true)=[]:=by
    have Km:=s6 (K':=fun _=>Region.ready .any all (listed.setIfInBounds i true)=[]) (fun aP bm=>bm.1) H
    unfold amOp at Km
    simp only [af] at Km
    exact abI Km
   rw [key] at hm;cases hm
 |succ fuel ih=>
  intro listed σ cx oY mL av H
  refine ⟨fun h=>(by rw [h] at av;cases av),fun j aH=>?_⟩
  by_cases hP:j=i
  ·subst hP;exact H
  ·obtain ⟨s7,cF,hQ,ft⟩:=mem_ready.1 aH
   have ry:∀k,listed.getD k true=false→listed[k]?.getD false=true→False:=fun k ar ad=>by
    rcases Nat.lt_or_ge k listed.size with bm|bm
    ·simp [bm] at ar ad;rw [ar] at ad;cases ad
    ·simp [Array.getElem?_eq_none bm] at ad
   have s8:j∉B:=fun AW=>by
    obtain ⟨e,he,ak,kP⟩:=fx j cF AW hQ
    have ad:=ft e he ak
    rcases kP with kP|kP
    ·rw [kP] at ad
     exact ry i (mem_ready.1 av).1 (by simpa using ad)
    ·exact ry _ (oY _ kP) (by simpa using ad)
   obtain ⟨eG,dR,gH,o1⟩:=mL j cF hQ hP s7 s8
   have ad:amOp P T G all i (fun fh=>amOp P T G all j (hO P T G all K fuel ((listed.setIfInBounds i true).setIfInBounds j true)) fh) σ:=s6 (fun fh rG=>rG.2 j (ready_mono aH hP)) H
   have ae:amOp P T G all j (fun eY=>(∀a∈L,eY.aC a=σ.aC a)∧amOp P T G all i (hO P T G all K fuel ((listed.setIfInBounds i true).setIfInBounds j true)) eY) σ:=by
    unfold amOp at ad⊢
    simp only [af,hQ] at ad⊢
    have ba:okPair σ.aC ej cF=true:=by
     rw [←dR]
     refine abG fun t aE=>cx t ?_
     rcases aE with aE|aE
     ·exact abK t aE
     ·exact o1 t aE
    exact abH gH (abE kR eG ba ad)
   have AX:∀k ok,all[k]?=some ok→k≠i→(listed.setIfInBounds j true).getD k true=false→
     k∉B→ej.apart all ok=true∧okPair s0 ej ok=true∧(∀t∈L,ok.dst≠some t)∧∀t∈addrT ok.op,t∈L:=fun k ok ai oZ mM gU=>by
    refine mL k ok ai oZ ?_ gU
    by_cases fg:j=k
    ·subst fg;exact s7
    ·rw [getD_set_ne true fg] at mM;exact mM
   refine s6 (fun eY ay=>ih (listed.setIfInBounds j true) eY (fun t aE=>(ay.1 t aE).trans (cx t aE)) (fun k ai=>by
    have fg:j≠k:=by rintro rfl;exact s8 ai
    rw [getD_set_ne true fg];exact oY k ai) AX (ready_mono av (Ne.symm hP)) ?_) ae
   rw [Array.setIfInBounds_comm _ _ hP]
   exact ay.2
end
end Go.Am
namespace Go.Am
structure V where
 name:ByteArray
 bool:Bool
 lo:Int
 af:Int
def V.cells(v:V):List D:=[aJ v.name,au v.bool,J v.lo,J v.af]
def V.d(v:V):D:= .agg v.cells
def a1(l:List V):D:= .aD 4 (l.map V.cells)
def np(n:Int):D:= .val (.int .u8 n)
def kS(n:Int):Prop:=-9223372036854775808≤n∧n≤9223372036854775807
def V.ok(v:V):Prop:=kS v.lo∧kS v.af∧v.name.size≤9223372036854775807
def V.span(v:V):Int:=if v.bool then 2 else if v.lo>v.af then 0 else if v.af-v.lo<1073741824 then v.af-v.lo+1 else 1073741825
def bitsOf(n:Int):Nat:=if n≤1 then 0 else Nat.log2 (n-1).toNat+1
theorem abL{n:Int}{k:Nat}(ad:∀j:Nat,j<k→(2:Int)^j<n)(ae:n≤2^k):bitsOf n=k:=by
 unfold bitsOf
 cases k with
 |zero=>simp at ae;simp [ae]
 |succ k=>
  have ay:=ad k (by omega)
  have aY:(0:Int)<2^k:=Int.pow_pos (by omega)
  rw [if_neg (by omega)]
  have e:Nat.log2 (n-1).toNat=k:=by
   have aB:(2:Nat)^k≤(n-1).toNat:=by
    have:((2^k:Nat):Int)=2^k:=by simp
    omega
   have ak:(n-1).toNat<2^(k+1):=by
    have:((2^(k+1):Nat):Int)=2^(k+1):=by simp
    omega
   exact (Nat.log2_eq_iff (by have:=Nat.two_pow_pos k;omega)).2 ⟨aB,ak⟩
  omega
theorem QP{n:Int}(h:1<n):bitsOf n=bitsOf (n/2+n%2)+1:=by
 unfold bitsOf
 rw [if_neg (by omega)]
 by_cases ae:n=2
 ·subst ae;decide
 ·rw [if_neg (by omega)]
  have e:(n/2+n%2-1).toNat=(n-1).toNat/2:=by omega
  rw [e]
  have ay:(n-1).toNat≠0:=by omega
  have aZ:(n-1).toNat/2≠0:=by omega
  obtain ⟨a,b⟩:=(Nat.log2_eq_iff aZ).1 rfl
  have:Nat.log2 (n-1).toNat=Nat.log2 ((n-1).toNat/2)+1:=by
   refine (Nat.log2_eq_iff ay).2 ⟨?_,?_⟩
   ·rw [Nat.pow_succ];omega
   ·rw [Nat.pow_succ];omega
  omega
def qo(c:Int):Bool:=(decide (c≥97)&&decide (c≤122))||(decide (c≥65)&&decide (c≤90))
def u5(c:Int):Bool:=decide (c≥48)&&decide (c≤57)
def kT(c:Int):Bool:=qo c||u5 c||(c==95)
theorem QQ{lo af:Int}(ad:kS lo)(ae:kS af)(h:lo≤af):IntKind.u64.wrap (IntKind.u64.wrap af-IntKind.u64.wrap lo)=af-lo:=by
 unfold kS at ad ae
 simp only [IntKind.wrap_u64]
 omega
theorem V.QR{v:V}(h:v.bool=true):v.span=2:=by simp [V.span,h]
theorem V.QS{v:V}(h:v.bool=false)(ad:v.lo>v.af):v.span=0:=by simp [V.span,h,ad]
theorem V.Kn{v:V}(h:v.bool=false)(ad:v.lo≤v.af)(ae:v.af-v.lo<1073741824):v.span=v.af-v.lo+1:=by simp [V.span,h,ae];omega
theorem V.Ko{v:V}(h:v.bool=false)(ad:v.lo≤v.af)(ae:1073741824≤v.af-v.lo):v.span=1073741825:=by simp [V.span,h,ae];omega
def has(x:ByteArray)(l:List ByteArray):Bool:=l.any fun y=>decide (y=x)
def idxOf(x:ByteArray)(l:List ByteArray):Int:=match l.findIdx? (fun y=>decide (y=x)) with
 |some i=>(i:Nat)
 |none=>-1
theorem QT{x:ByteArray}{l:List ByteArray}(h:∀j:Nat,j<l.length→l[j]?≠some x):idxOf x l=-1:=by
 unfold idxOf
 have:l.findIdx? (fun y=>decide (y=x))=none:=by
  rw [List.findIdx?_eq_none_iff]
  intro y aN
  obtain ⟨j,aH⟩:=List.mem_iff_getElem?.1 aN
  have ad:=h j (List.getElem?_eq_some_iff.1 aH).1
  rw [aH] at ad
  simpa using ad
 rw [this]
theorem QU{x:ByteArray}{l:List ByteArray}{i:Nat}(h:∀j:Nat,j<i→l[j]?≠some x)(af:l[i]?=some x):idxOf x l=i:=by
 unfold idxOf
 obtain ⟨bG,ch⟩:=List.getElem?_eq_some_iff.1 af
 have:l.findIdx? (fun y=>decide (y=x))=some i:=by
  rw [List.findIdx?_eq_some_iff_getElem]
  refine ⟨bG,by simpa using ch,fun j aH=>?_⟩
  have ad:=h j aH
  rw [List.getElem?_eq_getElem (by omega)] at ad
  simpa using ad
 rw [this]
theorem QV(x:ByteArray)(l:List ByteArray):decide (idxOf x l≥0)=has x l:=by
 unfold idxOf has
 cases h:l.findIdx? (fun y=>decide (y=x)) with
 |none=>
  rw [List.findIdx?_eq_none_iff] at h
  have:l.any (fun y=>decide (y=x))=false:=by rw [List.any_eq_false];intro y aN;simpa using h y aN
  rw [this];rfl
 |some i=>
  obtain ⟨ad,ae,_⟩:=List.findIdx?_eq_some_iff_getElem.1 h
  have:l.any (fun y=>decide (y=x))=true:=List.any_eq_true.2 ⟨_,List.getElem_mem ad,ae⟩
  rw [this]
  simp
theorem QW{x:ByteArray}{l:List ByteArray}{i:Nat}(h:l[i]?=some x):has x l=true:=
 List.any_eq_true.2 ⟨x,List.mem_of_getElem? h,by simp⟩
theorem QX{x:ByteArray}{l:List ByteArray}(h:∀j:Nat,j<l.length→l[j]?≠some x):has x l=false:=by
 unfold has
 rw [List.any_eq_false]
 intro y aN
 obtain ⟨j,aH⟩:=List.mem_iff_getElem?.1 aN
 have ad:=h j (List.getElem?_eq_some_iff.1 aH).1
 rw [aH] at ad
 simpa using ad
def mO(p:Int→Bool)(s:ByteArray)(i:Nat):Bool:=match s[i]? with
 |some b=>p b.toNat
 |none=>false
def lW(p:Int→Bool)(s:ByteArray):Nat:=((List.range (s.size+1)).find? fun i=>!mO p s i).getD 0
theorem FW{s:ByteArray}{i:Nat}:s[i]?=if h:i<s.size then some s[i] else none:=rfl
theorem abM{p:Int→Bool}{s:ByteArray}{i:Nat}(h:mO p s i=true):i<s.size:=by
 unfold mO at h
 rw [FW] at h
 by_cases ad:i<s.size
 ·exact ad
 ·rw [dif_neg ad] at h;cases h
def words:List ByteArray:=[⟨#[65]⟩,⟨#[65,70]⟩,⟨#[65,71]⟩,⟨#[65,88]⟩,⟨#[69]⟩,⟨#[69,70]⟩,⟨#[69,71]⟩,⟨#[69,88]⟩,⟨#[85]⟩,⟨#[98,111,111,108]⟩,⟨#[100,101,102]⟩,⟨#[101,108,115,101]⟩,⟨#[102,97,105,114]⟩,⟨#[102,97,108,115,101]⟩,⟨#[105,102]⟩,⟨#[105,110,105,116]⟩,⟨#[105,110,118,97,114]⟩,⟨#[109,111,100]⟩,⟨#[110,101,120,116]⟩,⟨#[115,112,101,99]⟩,⟨#[116,104,101,110]⟩,⟨#[116,114,97,110,115]⟩,⟨#[116,114,117,101]⟩,⟨#[118,97,114]⟩]
def isName(s:ByteArray):Bool:=decide ((s.size:Int)≥1)&&decide ((s.size:Int)≤24)&&mO qo s 0&&((lW kT s:Int)==(s.size:Int))&&!has s words
theorem QY(s:ByteArray):(decide (s=⟨#[]⟩)=true∧decide ((s.size:Int)≥1)=false)∨∃b,decide (s=⟨#[]⟩)=false∧decide ((s.size:Int)≥1)=true∧s[0]?=some b:=by
 by_cases h:0<s.size
 ·refine .inr ⟨s[0],?_,?_,?_⟩
  ·have:s≠⟨#[]⟩:=by rintro rfl;exact absurd h (by decide)
   simpa using this
  ·simp;omega
  ·rw [FW,dif_pos h]
 ·refine .inl ⟨?_,?_⟩
  ·have ar:s.size=0:=by omega
   have:s=⟨#[]⟩:=by
    cases s with|mk d=>
    congr 1
    exact Array.eq_empty_of_size_eq_zero ar
   simpa using this
  ·simp;omega
def tg(v:V):Bool:=decide ((if v.af>v.lo then v.af else v.lo)>255)||decide ((if v.af<v.lo then v.af else v.lo)< -255)
def FX(seen:List V)(v:V):Int:=
 if !isName v.name then 12 else if has v.name (seen.map V.name) then 6 else if v.bool&&(v.lo !=0||v.af !=0) then 3
 else if !v.bool&&(decide (v.lo>v.af)||tg v||decide (IntKind.i64.wrap (v.af-v.lo)≥64)) then 2 else 0
def ia(l:List V)(i:Nat):Int:=match l[i]? with
 |some v=>FX (l.take i) v
 |none=>0
def jZ(l:List V):Int×Int:=match(List.range l.length).find? (fun i=>ia l i !=0) with
 |some i=>((i:Int),ia l i)
 |none=>(0,0)
theorem QZ{l:List V}{i:Nat}{e:Int}(h:∀j:Nat,j<i→ia l j=0)(af:i<l.length)(he:ia l i=e)(ar:e≠0):jZ l=((i:Int),e):=by
 unfold jZ
 have:(List.range l.length).find? (fun i=>ia l i !=0)=some i:=by
  rw [List.find?_range_eq_some]
  exact ⟨by simpa [he] using ar,by simpa using af,fun j aH=>by simp [h j aH]⟩
 rw [this]
 simp [he]
theorem Q0{l:List V}(h:∀j:Nat,j<l.length→ia l j=0):jZ l=(0,0):=by
 unfold jZ
 have:(List.range l.length).find? (fun i=>ia l i !=0)=none:=by
  rw [List.find?_eq_none]
  intro j aH
  simp [h j (by simpa using aH)]
 rw [this]
theorem abN{v:V}(aM:v.ok):(!v.bool&&(decide (v.lo>v.af)||tg v||decide (IntKind.i64.wrap (v.af-v.lo)≥64)))=
  (!v.bool&&(decide (v.lo>v.af)||!(decide (v.lo≥-255)&&decide (v.lo≤255))||!(decide (v.af≥-255)&&decide (v.af≤255))||decide (v.span>64))):=by
 cases ak:v.bool with
 |true=>rfl
 |false=>
  by_cases ad:v.lo>v.af
  ·simp [ad]
  ·have dw:v.lo≤v.af:=by omega
   by_cases ae:-255≤v.lo∧v.af≤255
   ·have aS:tg v=false:=by
     unfold tg
     split<;>(try split)<;>simp<;>omega
    have aV:(decide (v.lo≥-255)&&decide (v.lo≤255))=true:=by simp;omega
    have bz:(decide (v.af≥-255)&&decide (v.af≤255))=true:=by simp;omega
    rw [V.Kn ak dw (by omega),aS,aV,bz,wrap64 _ (by omega) (by omega)]
    have cB:decide (v.lo>v.af)=false:=by simpa using dw
    have dx:decide (v.af-v.lo≥64)=decide (v.af-v.lo+1>64):=by rw [decide_eq_decide];omega
    rw [cB,dx]
    rfl
   ·have aS:tg v=true:=by
     unfold tg
     split<;>(try split)<;>simp<;>omega
    have aV:(!(decide (v.lo≥-255)&&decide (v.lo≤255))||!(decide (v.af≥-255)&&decide (v.af≤255)))=true:=by simp;omega
    rw [aS]
    revert aV
    generalize decide (v.lo>v.af)=p
    generalize (decide (v.lo≥-255)&&decide (v.lo≤255))=q
    generalize (decide (v.af≥-255)&&decide (v.af≤255))=r
    cases p<;>cases q<;>cases r<;>simp
theorem abO{l:List V}{x:ByteArray}{i:Nat}(h:∀j:Nat,j<i→(l.map V.name)[j]?≠some x):has x ((l.take i).map V.name)=false:=by
 refine QX fun j aH=>?_
 rw [List.map_take,List.getElem?_take]
 simp at aH
 rw [if_pos (by omega)]
 exact h j (by omega)
theorem abP{l:List V}{w:V}{k i:Nat}(ai:k<i)(hw:l[k]?=some w):has w.name ((l.take i).map V.name)=true:=by
 refine QW (i:=k) ?_
 rw [List.map_take,List.getElem?_take,if_pos ai,List.getElem?_map,hw];rfl
end Go.Am
