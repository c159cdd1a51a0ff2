/- Steps, joins, and nil slices that become rows of our own. No condition. -/
import Derived.Test.YtknmgdnhongcnaaGreatDoorEngB
set_option linter.all false
set_option linter.unnecessarySimpa false
namespace Go.Am
set_option linter.unusedVariables false
section
variable{P:Program}{T:bY}{G:cT}{N:Nat}{σ:St}{Q:Exit→St→Prop}{all:Array Oper}
theorem abx(l:List Oper):∀(k:Nat) (σ:St) (K:St→Prop),(∀j,l[j]?=all[k+j]?)→vOps P T G all l K σ→vOrd P T G all (List.range' k l.length) K σ:=by
 induction l with
 |nil=>intro k σ K _ h;exact h
 |cons o l ih=>
  intro k σ K an h
  have aq:all[k]?=some o:=by simpa using(an 0).symm
  simp only [List.length_cons,List.range'_succ,vOrd,aq]
  refine A5 (fun aR rM=>ih (k+1) aR K (fun j=>by have:=an (j+1);simpa [Nat.add_assoc,Nat.add_comm 1 j] using this) rM) h
theorem aby(a0:dn P T)(hm:P.follows .mixedOrders=true){id:Nat}{ops:Array Oper}(bQ:dstOk N ops=true)(yu:ordFrom T ops (List.range ops.size) (Array.replicate ops.size false)=true)
  (h:vOps P T G ops ops.toList (Q .normal) σ):fS P T G N (.region id ops true) σ Q:=by
 refine abd a0 hm bQ (List.range ops.size) (by simp) yu ?_
 rw [List.range_eq_range']
 have:=abx (P:=P) (T:=T) (G:=G) (all:=ops) ops.toList 0 σ (Q .normal) (fun j=>by simp) h
 simpa using this
end
end Go.Am
namespace Go.Am
set_option linter.unusedVariables false
section
variable{P:Program}{T:bY}{G:cT}{N:Nat}{σ fg:St}{Q:Exit→St→Prop}{id:Nat}{ops:Array Oper}
end
theorem wrap64(x:Int)(ad:-9223372036854775808≤x)(ae:x≤9223372036854775807):IntKind.i64.wrap x=x:=by
 rw [IntKind.wrap_i64];omega
def Fin(T:bY)(rs:List ResultVar)(dX:D→Prop)(e:Exit)(aR:St):Prop:=
 (e= .normal∨e= .ret)∧∃r d x,resA T aR rs=some r∧toD aR.objs r=some d∧d.le x∧dX x
theorem getD_cons_zero{α:Type}(x:α)(l:List α)(d:α):(x::l).getD 0 d=x:=rfl
theorem getD_cons_succ{α:Type}(x:α)(l:List α)(n:Nat)(d:α):(x::l).getD (n+1) d=l.getD n d:=rfl
end Go.Am
namespace Go.Am
set_option linter.unusedVariables false
theorem Q2{σ:St}(K:Key)(n:Nat)(rP:Nat→AV)(objs':b6)(fV:σ.objs K=none)
  (aB:∀t,rP t=σ.aC t∨σ.aC t= .d (.val (.slice none 0 0))∧rP t= .row K)
  (az:∀k o,objs' k=some o→k=K∧o= .row n []∨k≠K∧(σ.objs k=some o∨∃xs i,σ.objs k=some (.box xs)∧xs[i]?=some (.d (.val (.slice none 0 0)))∧o= .box (xs.set i (.row K))))
  (mF:∀k,σ.objs k≠none→objs' k≠none) (abz:objs' K=some (.row n [])) (abA:∀k,dP (σ.objs k)→dP (objs' k)):fR σ ⟨rP,objs'⟩:=by
 intro m fr ρ a w h
 have cc:∀k,σ.used k→k≠K:=by rintro k ⟨o,ai⟩ rfl;rw [fV] at ai;cases ai
 have au:∀k,σ.used k→St.used ⟨rP,objs'⟩ k∧b0 ρ K (.slice none 0 0) k=ρ k:=fun k ai=>
  ⟨by
   cases bp:objs' k with
   |none=>exact absurd bp (mF k (by obtain ⟨o,e⟩:=ai;rw [e];simp))
   |some o=>exact ⟨o,bp⟩,cq _ _ (cc k ai)⟩
 have abB:St.used ⟨rP,objs'⟩ K:=⟨_,abz⟩
 have yz:b0 ρ K (.slice none 0 0) K= .slice none 0 0:=by simp [b0]
 have nd:bK m (b0 ρ K (.slice none 0 0)) (St.used ⟨rP,objs'⟩) (.row K) (.slice none 0 0):=by
  have:=bK.row (m:=m) (ρ:=b0 ρ K (.slice none 0 0)) (U:=St.used ⟨rP,objs'⟩) K abB
  rw [yz] at this
  exact this
 refine ⟨m,b0 ρ K (.slice none 0 0),Mem.le_refl m,⟨h.mem,h.frame,h.apart,?_,?_,?_,?_,?_⟩,?_⟩
 ·rintro k ⟨o,ai⟩
  rcases az k o ai with⟨rfl,rfl⟩|⟨ad,ae⟩
  ·rw [yz];rfl
  ·rw [cq _ _ ad]
   rcases ae with ae|⟨xs,i,ae,_,_⟩
   ·exact h.one k ⟨_,ae⟩
   ·exact h.one k ⟨_,ae⟩
 ·intro t
  rcases aB t with e|⟨aQ,aW⟩
  ·show bK m _ _ (rP t) _
   rw [e]
   exact (h.aC t).mono (Mem.le_refl m) au
  ·show bK m _ _ (rP t) _
   rw [aW]
   have:=h.aC t
   rw [aQ] at this
   rw [this.gp]
   exact nd
 ·intro k o ai
  rcases az k o ai with⟨rfl,rfl⟩|⟨ad,ae⟩
  ·rw [yz];exact .inl ⟨rfl,rfl⟩
  ·rw [cq _ _ ad]
   rcases ae with ae|⟨xs,i,ae,ax,rfl⟩
   ·exact (h.objs k o ae).mono (Mem.le_refl m) au (fun _ _ _=>rfl)
   ·obtain ⟨b,vs,T,aQ,aW,bA,cz⟩:=(h.objs k _ ae).mono (Mem.le_refl m) au (fun _ _ _=>rfl)
    refine ⟨b,vs,T,aQ,aW,by simpa using bA,?_⟩
    intro j c x aj ah
    rw [List.getElem?_set] at aj
    split at aj
    ·rename_i kP
     subst kP
     split at aj
     ·cases aj
      have:=cz i _ x ax ah
      rw [this.gp]
      exact nd
     ·cases aj
    ·exact cz j c x aj ah
 ·intro k o b ai abC ak
  rcases az k o ai with⟨rfl,rfl⟩|⟨ad,ae⟩
  ·have fE:blockOf (b0 ρ k (.slice none 0 0) k)=some b:=ak
   rw [yz] at fE;cases fE
  ·have fE:blockOf (b0 ρ K (.slice none 0 0) k)=some b:=ak
   rw [cq _ _ ad] at fE
   rcases ae with ae|⟨xs,i,ae,_,rfl⟩
   ·exact h.own k o b ae abC fE
   ·exact h.own k _ b ae rfl fE
 ·intro k bg o o' b c1 ai dZ fH lh ak
  rcases az k o ai with⟨rfl,rfl⟩|⟨ad,ae⟩
  ·have fE:blockOf (b0 ρ k (.slice none 0 0) k)=some b:=ak
   rw [yz] at fE;cases fE
  ·rw [cq _ _ ad] at ak
   rcases az bg o' dZ with⟨rfl,rfl⟩|⟨c3,fQ⟩
   ·rw [yz];intro bp;cases bp
   ·rw [cq _ _ c3]
    have hold:∃p,σ.objs k=some p∧p.owns=true:=by
     rcases ae with ae|⟨xs,i,ae,_,rfl⟩
     ·exact ⟨_,ae,fH⟩
     ·exact ⟨_,ae,rfl⟩
    have abD:∃p,σ.objs bg=some p∧p.owns=true:=by
     rcases fQ with fQ|⟨xs,i,fQ,_,rfl⟩
     ·exact ⟨_,fQ,lh⟩
     ·exact ⟨_,fQ,rfl⟩
    obtain ⟨p,br,bj⟩:=hold
    obtain ⟨mz,abE,abF⟩:=abD
    exact h.sep k bg p mz b c1 br abE bj abF ak
 ·intro k ai ak
  refine ⟨abA k ak,cq _ _ ?_⟩
  obtain ⟨c,aj⟩:=ym ak
  exact cc k ⟨_,aj⟩
theorem abG{σ:St}(t:Nat)(K:Key)(n:Nat)(aG:σ.aC t= .d (.val (.slice none 0 0)))(fV:σ.objs K=none):fR σ ⟨b0 σ.aC t (.row K),b0 σ.objs K (some (.row n []))⟩:=by
 refine Q2 K n _ _ fV ?_ ?_ ?_ (by simp [b0]) ?_
 ·intro j
  by_cases h:j=t
  ·subst h;exact .inr ⟨aG,by simp [b0]⟩
  ·exact .inl (by simp [b0,h])
 ·intro k o ai
  by_cases h:k=K
  ·subst h;simp [b0] at ai;exact .inl ⟨rfl,ai.symm⟩
  ·rw [cq _ _ h] at ai;exact .inr ⟨h,.inl ai⟩
 ·intro k ai
  by_cases h:k=K
  ·subst h;simp [b0]
  ·rw [cq _ _ h];exact ai
 ·intro k ak
  have h:k≠K:=by rintro rfl;rw [fV] at ak;exact rI ak
  rw [cq _ _ h];exact ak
theorem abH{σ:St}(k:Key)(i:Nat)(K:Key)(n:Nat){xs:List AV}(ai:σ.objs k=some (.box xs))(af:xs[i]?=some (.d (.val (.slice none 0 0))))(fV:σ.objs K=none):
  fR σ ⟨σ.aC,b0 (b0 σ.objs k (some (.box (xs.set i (.row K))))) K (some (.row n []))⟩:=by
 have aty:k≠K:=by rintro rfl;rw [fV] at ai;cases ai
 refine Q2 K n _ _ fV (fun _=> .inl rfl) ?_ ?_ (by simp [b0]) ?_
 ·intro j o aF
  by_cases h:j=K
  ·subst h;simp [b0] at aF;exact .inl ⟨rfl,aF.symm⟩
  ·rw [cq _ _ h] at aF
   by_cases ae:j=k
   ·subst ae
    simp [b0] at aF
    exact .inr ⟨h,.inr ⟨xs,i,ai,af,aF.symm⟩⟩
   ·rw [cq _ _ ae] at aF;exact .inr ⟨h,.inl aF⟩
 ·intro j aF
  by_cases h:j=K
  ·subst h;simp [b0]
  ·rw [cq _ _ h]
   by_cases ae:j=k
   ·subst ae;simp [b0]
   ·rw [cq _ _ ae];exact aF
 ·intro j ak
  have h:j≠K:=by rintro rfl;rw [fV] at ak;exact rI ak
  rw [cq _ _ h]
  by_cases ae:j=k
  ·subst ae;rw [dW];exact rG
  ·rw [cq _ _ ae];exact ak
end Go.Am
namespace Go.Am
set_option linter.unusedVariables false
theorem abI{T:bY}{ev:Operand→AV}{objs:b6}{d:Key}{o:Op}{r:AV}{b3:List (Key×cl)}(h:effOp0 T ev objs d o=some (r,b3))(gP:∀t a x,o≠ .store t a x):∀j c,objs j=some (.box c)→updO objs b3 j=some (.box c):=by
 have F3:∀{objs:b6} {k:Key} {o:cl},(∀c,objs k≠some (.box c))→∀j c,objs j=some (.box c)→b0 objs k (some o) j=some (.box c):=by
  intro objs k o ai j c aF
  have:j≠k:=by rintro rfl;exact ai c aF
  rw [cq _ _ this];exact aF
 have new:∀{o:cl},objs d=none→∀j c,objs j=some (.box c)→updO objs [(d,o)] j=some (.box c):=by
  intro o ay
  exact F3 (by intro c aj;rw [ay] at aj;cases aj)
 have same:∀{k:Key} {dc o:cl},objs k=some dc→(∀c,dc≠ .box c)→∀j c,objs j=some (.box c)→updO objs [(k,o)] j=some (.box c):=by
  intro k dc o ai cc
  exact F3 (by intro c aj;rw [ai] at aj;cases aj;exact cc c rfl)
 cases o<;>simp only [effOp0,reduceCtorEq] at h
 case alloc=>split at h<;>cases h;exact new (by assumption)
 case box=>split at h<;>cases h;exact new (by assumption)
 case buildSlice=>
  split at h
  case h_2=>cases h
  split at h
  case h_2=>cases h
  split at h
  case h_2=>cases h
  split at h<;>cases h
  exact new (by assumption)
 case makeSlice=>
  split at h
  case h_2=>cases h
  split at h
  case h_2=>cases h
  split at h
  case h_2=>cases h
  split at h<;>cases h
  exact new (by assumption)
 case makeMap=>split at h<;>cases h;exact new (by assumption)
 case store=>exact absurd rfl (gP _ _ _)
 case mapUpdate=>
  split at h
  case h_2=>cases h
  split at h
  case h_2=>cases h
  split at h
  case isFalse=>cases h
  split at h
  case h_2=>cases h
  split at h
  case h_2=>cases h
  split at h<;>cases h
  exact same (by assumption) (by intro c aj;cases aj)
 case insert=>
  split at h
  case h_2=>cases h
  split at h
  case h_2=>cases h
  split at h
  case isFalse=>cases h
  split at h
  case h_2=>cases h
  split at h
  case h_2=>cases h
  split at h<;>cases h
  exact same (by assumption) (by intro c aj;cases aj)
 case call=>
  split at h
  ·split at h
   case h_2=>cases h
   split at h
   case h_2=>cases h
   split at h
   case h_2=>cases h
   split at h
   case h_2=>cases h
   split at h
   case isFalse=>cases h
   split at h
   ·split at h<;>cases h
    exact new (by assumption)
   ·split at h
    case h_2=>cases h
    split at h<;>cases h
    rename_i ay _ _ _ _ _ _ _ _ _ _ _ _ ai _ _
    have fY:=same (o:= .dead) (by assumption) (by intro c aj;cases aj)
    intro j aP aF
    have ad:=fY j aP aF
    refine F3 ?_ j aP ad
    intro c ak
    have cc:∀key x,objs key=some x→d≠key:=by
     rintro key x ah rfl
     have aq:objs d=none:=by assumption
     rw [aq] at ah;cases ah
    rw [cq _ _ (cc _ _ (by assumption))] at ak
    clear F3 new same fY ad cc
    simp_all
   ·cases h
  ·split at h
   case h_2=>cases h
   split at h
   case h_2=>cases h
   split at h
   case h_2=>cases h
   split at h
   case h_2=>cases h
   split at h
   case isFalse=>cases h
   split at h
   ·split at h
    case h_2=>cases h
    split at h<;>cases h
    exact same (by assumption) (by intro c aj;cases aj)
   ·split at h
    case h_2=>cases h
    split at h<;>cases h
    exact same (by assumption) (by intro c aj;cases aj)
   ·cases h
  ·cases h
theorem abJ{T:bY}{ev:Operand→AV}{objs:b6}{d:Key}{o:Op}{r:AV}{b3:List (Key×cl)}(h:fF T ev objs d o=some (r,b3))(gP:∀t a x,o≠ .store t a x):∀j c,objs j=some (.box c)→updO objs b3 j=some (.box c):=by
 obtain ⟨⟨g1,qn⟩,aq,ak⟩:=ta h
 have ad:=abI aq gP
 intro j c aF
 have ae:=ad j c aF
 rcases u1 (T.born d) d g1 qn with e|⟨n,es,rfl,rfl,e⟩|⟨n3,n,es,rfl,rfl,e⟩|⟨off,cs,aD,rfl,rfl,ec,e⟩
 ·rw [ak] at e;cases e;exact ae
 ·rw [ak] at e;cases e
  by_cases ay:j=d
  ·subst ay;simp only [updO,dW] at ae;cases ae
  ·simp only [updO,cq _ _ ay] at ae⊢;exact ae
 ·rw [ak] at e;cases e
  by_cases ay:j=d
  ·subst ay;simp only [updO,dW] at ae;cases ae
  ·simp only [updO,cq _ _ ay] at ae⊢;exact ae
 ·rw [ak] at e;cases e
  have aJ:objs d=none:=Qt aq
  by_cases ay:j=d
  ·subst ay;rw [aJ] at aF;cases aF
  ·simp only [updO,cq _ _ ay];exact aF
section
variable{P:Program}{T:bY}{G:cT}{all:Array Oper}
theorem abK{y:Oper}{σ:St}{K K':St→Prop}(gP:∀t a x,y.op≠ .store t a x)(ai:∀objs r,(∀j c,σ.objs j=some (.box c)→objs j=some (.box c))→K (St.put ⟨σ.aC,objs⟩ y.dst r)→K' (St.put ⟨σ.aC,objs⟩ y.dst r))
  (h:vDo P T G y K σ):vDo P T G y K' σ:=by
 unfold vDo at*
 rw [te] at*
 cases au:res T G σ y with
 |none=>simp only [au,Option.map_none] at h⊢;exact A0 h fun r au=>ai σ.objs r (fun _ _ h=>h) au
 |some p=>
  simp only [au,Option.map_some] at h⊢
  refine ai _ _ ?_ h
  intro j c aF
  obtain ⟨r,b3⟩:=p
  unfold res at au
  split at au
  ·cases au;exact aF
  ·split at au
   ·cases au;exact aF
   ·exact abJ au gP j c aF
theorem Q3{t a k off:Nat}{σ:St}{x:Oper}(ah:x.op= .load t (.tmp a))(aB:σ.aC a= .ptr k off){K:St→Prop}(h:vDo P T G x K σ):
  ∃r,K (σ.put x.dst r)∧∀objs,(∀j c,σ.objs j=some (.box c)→objs j=some (.box c))→res T G ⟨σ.aC,objs⟩ x=some (r,[]):=by
 unfold vDo at h
 rw [te] at h
 cases au:res T G σ x with
 |none=>
  simp only [au,Option.map_none] at h
  unfold vCall at h
  rw [ah] at h
  exact h.elim
 |some p=>
  simp only [au,Option.map_some] at h
  obtain ⟨r,b3⟩:=p
  unfold res at au
  rw [ah] at au
  simp only [pureOp,memOp,evA,aB,fF,effOp0,Option.map_none] at au
  cases a0:T t with
  |none=>simp [a0] at au
  |some i=>
   simp only [a0] at au
   cases ai:σ.objs k with
   |none=>simp [ai] at au
   |some o=>
    cases o with
    |box cells=>
     simp only [ai] at au
     cases aV:sY i cells off with
     |none=>simp [aV] at au
     |some q=>
      simp only [aV,Option.some.injEq,Prod.mk.injEq] at au
      obtain ⟨rfl,rfl⟩:=au
      refine ⟨q,h,fun objs az=>?_⟩
      unfold res
      rw [ah]
      simp only [pureOp,memOp,evA,aB,a0,az k cells ai,aV]
    |dead=>simp [ai] at au
    |row=>simp [ai] at au
    |map=>simp [ai] at au
theorem Q4{x y:Oper}{σ:St}{K:St→Prop}{t a k off:Nat}(ah:x.op= .load t (.tmp a))(kQ:x.guard=none)(aB:σ.aC a= .ptr k off)(gP:∀t a x,y.op≠ .store t a x)(kN:x.apart all y=true)
  (h:vOp P T G all x (fun fg=>vOp P T G all y K fg) σ):vOp P T G all y (fun eT=>vOp P T G all x K eT) σ:=by
 obtain ⟨ag,aS,bN⟩:=Oper.apart_spec kN
 have mC:∀d,y.dst=some d→x.dst≠some d:=fun d ay ah=>aS d ah ay
 have jw:∀(K:St→Prop) σ,vOp P T G all x K σ=vDo P T G x K σ:=fun K σ=>by unfold vOp;simp only [kQ]
 simp only [jw] at h⊢
 obtain ⟨r,ad,ae⟩:=Q3 ah aB h
 have Bc:∀(K:St→Prop) objs,(∀j c,σ.objs j=some (.box c)→objs j=some (.box c))→vDo P T G x K ⟨σ.aC,objs⟩=K (St.put ⟨σ.aC,objs⟩ x.dst r):=fun K objs az=>kn (ae objs az)
 rw [vOp_eq,mA ag] at ad
 rw [vOp_eq]
 split at ad
 ·rename_i hw
  try simp only [hw]
  rw [hQ ag aS] at ad
  refine abK gP (fun objs q az ai=>?_) ad
  rw [hQ bN mC,Bc _ _ az,put_comm aS]
  exact ai
 ·rename_i hw
  try simp only [hw]
  show vDo P T G x K (σ.put y.dst _)
  rw [hQ bN mC]
  have:=Bc (fun aR=>K (aR.put y.dst (.d (.val (.tuple #[]))))) σ.objs (fun _ _ h=>h)
  have e:vDo P T G x (fun aR=>K (aR.put y.dst (.d (.val (.tuple #[]))))) σ=K ((σ.put x.dst r).put y.dst (.d (.val (.tuple #[])))):=this
  rw [e]
  exact ad
 ·exact ad.elim
theorem abL{y:Oper}{σ:St}{K:St→Prop}{a:Nat}(ay:y.dst≠some a)(h:vOp P T G all y K σ):vOp P T G all y (fun aR=>aR.aC a=σ.aC a∧K aR) σ:=by
 have aV:∀(objs:b6) (r:AV),(St.put ⟨σ.aC,objs⟩ y.dst r).aC a=σ.aC a:=fun objs r=>by
  cases aT:y.dst with
  |none=>rfl
  |some d=>
   have:a≠d:=by rintro rfl;exact ay aT
   simp only [St.put,cq _ _ this]
 rw [vOp_eq] at h⊢
 split at h
 ·rename_i hw
  try simp only [hw]
  exact tj (fun objs r ai=>⟨aV objs r,ai⟩) h
 ·rename_i hw
  try simp only [hw]
  exact ⟨aV σ.objs _,h⟩
 ·exact h.elim
theorem abM{K:St→Prop}{i:Nat}{eg:Oper}{t a k off:Nat}(af:all[i]?=some eg)(ah:eg.op= .load t (.tmp a))(kQ:eg.guard=none){B:List Nat}(fX:∀j cC,j∈B→all[j]?=some cC→∃e∈cC.after,Region.binds .any e=true∧(e.on=i∨e.on∈B)):∀(fuel:Nat) (listed:Array Bool) (σ:St),σ.aC a= .ptr k off→
  (∀j,j∈B→listed.getD j true=false)→
  (∀j cC,all[j]?=some cC→j≠i→listed.getD j true=false→j∉B→eg.apart all cC=true∧∀t a x,cC.op≠ .store t a x)→
  i∈Region.ready .any all listed→amOp P T G all i (hD P T G all K fuel (listed.setIfInBounds i true)) σ→hD P T G all K (fuel+1) listed σ:=by
 intro fuel
 induction fuel with
 |zero=>
  intro listed σ c6 o0 mD au H
  refine ⟨fun h=>(by rw [h] at au;cases au),fun j aF=>?_⟩
  by_cases hE:j=i
  ·subst hE;exact H
  ·have hm:=ready_mono aF hE
   exfalso
   have key:Region.ready .any all (listed.setIfInBounds i true)=[]:=by
    unfold amOp at H
    simp only [af] at H
    unfold vOp at H
    simp only [kQ] at H
    obtain ⟨r,ad,_⟩:=Q3 ah c6 H
    exact ad.1
   rw [key] at hm;cases hm
 |succ fuel ih=>
  intro listed σ c6 o0 mD au H
  refine ⟨fun h=>(by rw [h] at au;cases au),fun j aF=>?_⟩
  by_cases hE:j=i
  ·subst hE;exact H
  ·obtain ⟨tl,cC,hF,fp⟩:=mem_ready.1 aF
   have rD:∀k,listed.getD k true=false→listed[k]?.getD false=true→False:=fun k aq ad=>by
    rcases Nat.lt_or_ge k listed.size with bh|bh
    ·simp [bh] at aq ad;rw [aq] at ad;cases ad
    ·simp [Array.getElem?_eq_none bh] at ad
   have tn:j∉B:=fun A7=>by
    obtain ⟨e,he,ak,kO⟩:=fX j cC A7 hF
    have ad:=fp e he ak
    rcases kO with kO|kO
    ·rw [kO] at ad
     exact rD i (mem_ready.1 au).1 (by simpa using ad)
    ·exact rD _ (o0 _ kO) (by simpa using ad)
   obtain ⟨dT,dw⟩:=mD j cC hF hE tl tn
   have ad:amOp P T G all i (fun fg=>amOp P T G all j (hD P T G all K fuel ((listed.setIfInBounds i true).setIfInBounds j true)) fg) σ:=tk (fun fg rM=>rM.2 j (ready_mono aF hE)) H
   have KA:cC.dst≠some a:=fun ay=>by
    obtain ⟨_,_,bN⟩:=Oper.apart_spec dT
    refine bN a ay ?_
    unfold Oper.looksAt
    rw [ah]
    simp [Op.operands]
   have ae:amOp P T G all j (fun eT=>eT.aC a=σ.aC a∧amOp P T G all i (hD P T G all K fuel ((listed.setIfInBounds i true).setIfInBounds j true)) eT) σ:=by
    unfold amOp at ad⊢
    simp only [af,hF] at ad⊢
    exact abL KA (Q4 ah kQ c6 dw dT ad)
   have A8:∀k ok,all[k]?=some ok→k≠i→(listed.setIfInBounds j true).getD k true=false→
     k∉B→eg.apart all ok=true∧∀t a x,ok.op≠ .store t a x:=fun k ok ai o1 mE gP=>by
    refine mD k ok ai o1 ?_ gP
    by_cases fe:j=k
    ·subst fe;exact tl
    ·rw [getD_set_ne true fe] at mE;exact mE
   refine tk (fun eT ax=>ih (listed.setIfInBounds j true) eT (ax.1.trans c6) (fun k ai=>by
    have fe:j≠k:=by rintro rfl;exact tn ai
    rw [getD_set_ne true fe];exact o0 k ai) A8 (ready_mono au (Ne.symm hE)) ?_) ae
   rw [Array.setIfInBounds_comm _ _ hE]
   exact ax.2
end
end Go.Am
namespace Go.Am
set_option linter.unusedVariables false
section
variable{P:Program}{T:bY}{G:cT}{all:Array Oper}
def keyA:AV→Option Key
 | .ptr k _=>some k
 | .fb k _ _ _=>some k
 |_=>none
def keyOf(aC:Nat→AV):Operand→Option Key
 | .tmp a=>keyA (aC a)
 |_=>none
theorem KB{aC:Nat→AV}(x:Operand):keyA (evA G aC x)=keyOf aC x:=by
 cases x with
 |tmp a=>rfl
 |const v=>rfl
 |func f=>rfl
 |global g=>
  simp only [evA,keyOf]
  split<;>rfl
def isD(aC:Nat→AV):Operand→Bool
 | .tmp a=>match aC a with
  | .d _=>true
  |_=>false
 | .const _=>true
 |_=>false
def isStoreK(aC:Nat→AV)(k:Key):Op→Bool
 | .store _ a _=>match keyOf aC a with
  |some bg=>bg !=k
  |none=>false
 |_=>false
def F4:Op→Bool
 | .store _ _ _=>true
 |_=>false
def isBx(aC:Nat→AV):Operand→Bool
 | .tmp a=>match aC a with
  | .ptr _ _=>true
  |_=>false
 |_=>false
def abN:AV→Bool
 | .d _=>true
 | .dO _ _=>true
 |_=>false
def oc(aC:Nat→AV):Operand→Bool
 | .tmp a=>abN (aC a)
 |_=>false
def dataOp(aC:Nat→AV):Op→Bool
 | .load _ a=>oc aC a
 | .indexAddr _ x _=>oc aC x
 | .lookup _ m _ _=>oc aC m
 | .slice _ x _ _ none=>oc aC x
 | .call ⟨.builtin .len,args,_⟩=>args.toList.all (oc aC)
 |_=>false
def okPair(aC:Nat→AV)(x y:Oper):Bool:=pass x y||dataOp aC x.op||match x.op with
 | .binOp _ _ a b _=>isD aC a&&isD aC b
 | .load _ a=>match keyOf aC a with
  |some k=>(isBx aC a&&!F4 y.op)||hf y.op||hC y.op||fW y.op||isStoreK aC k y.op
  |none=>false
 | .indexAddr _ _ _=>hf y.op||hC y.op||fW y.op||F4 y.op
 | .store _ a _=>match keyOf aC a with
  |some k=>isStoreK aC k y.op
  |none=>false
 |_=>false
def KC(k:Key)(o o':b6):Prop:=o' k=o k
def yA(o o':b6):Prop:=∀k n es,o k=some (.row n es)→∃gZ,o' k=some (.row n gZ)∧gZ.length=es.length
theorem abO{y:Oper}{σ:St}{K K':St→Prop}{dX:b6→Prop}(aq:dX σ.objs)(gG:∀r b3,res T G σ y=some (r,b3)→dX (updO σ.objs b3))(ai:∀objs r,dX objs→K (St.put ⟨σ.aC,objs⟩ y.dst r)→K' (St.put ⟨σ.aC,objs⟩ y.dst r))
  (h:vDo P T G y K σ):vDo P T G y K' σ:=by
 unfold vDo at*
 rw [te] at*
 cases au:res T G σ y with
 |none=>simp only [au,Option.map_none] at h⊢;exact A0 h fun r au=>ai σ.objs r aq au
 |some p=>
  simp only [au,Option.map_some] at h⊢
  obtain ⟨r,b3⟩:=p
  exact ai _ _ (gG r b3 au) h
theorem Q5{σ:St}{y:Oper}(h:(hf y.op||hC y.op||fW y.op)=true){r:AV}{b3:List (Key×cl)}(au:res T G σ y=some (r,b3)):b3=[]:=by
 unfold res at au
 split at au
 ·cases au;rfl
 ·split at au
  ·cases au;rfl
  ·simp only [Bool.or_eq_true] at h
   rcases h with(h|h)|h
   ·rw [(yp h).2] at au;cases au
   ·rw [yq h] at au;cases au
   ·rw [(Kn (T:=T) (ev:=evA G σ.aC) (objs:=σ.objs) (d:=y.dst.getD 9999) h).2.2] at au;cases au
theorem KD{σ:St}{y:Oper}{t:TypeId}{a x:Operand}(aT:y.op= .store t a x){r:AV}{b3:List (Key×cl)}(au:res T G σ y=some (r,b3)):
  ∃k o o',keyOf σ.aC a=some k∧b3=[(k,o')]∧σ.objs k=some o∧((∃c hb,o= .box c∧o'= .box hb)∨∃n es gZ,o= .row n es∧o'= .row n gZ∧gZ.length=es.length):=by
 rw [←KB (G:=G)]
 unfold res at au
 rw [aT] at au
 simp only [pureOp,memOp,Qj,effOp0] at au
 split at au
 case h_2=>cases au
 split at au
 case isFalse=>cases au
 split at au
 ·rename_i k off he
  split at au
  case h_2=>cases au
  rename_i cells az
  split at au<;>cases au
  exact ⟨k,_,_,by rw [he];rfl,rfl,az,.inl ⟨_,_,rfl,rfl⟩⟩
 ·rename_i k cx ej off he
  split at au
  case h_2=>cases au
  rename_i bg es aD az ay
  split at au
  case isFalse=>cases au
  rename_i aj
  split at au<;>cases au
  exact ⟨k,_,_,by rw [he];rfl,rfl,az,.inr ⟨cx,es,_,by rw [aj.1],rfl,by simp⟩⟩
 ·cases au
theorem Bd{objs:b6}{k:Key}{o:cl}(j:Key):updO objs [(k,o)] j=if j=k then some o else objs j:=by
 by_cases h:j=k
 ·subst h;simp [updO,dW]
 ·simp [updO,cq _ _ h,h]
theorem abP{σ:St}{y:Oper}{k:Key}(h:(hf y.op||hC y.op||fW y.op||isStoreK σ.aC k y.op)=true){r:AV}{b3:List (Key×cl)}(au:res T G σ y=some (r,b3)):KC k σ.objs (updO σ.objs b3):=by
 rcases Bool.or_eq_true_iff.1 h with h|h
 ·rw [Q5 h au];rfl
 ·unfold isStoreK at h
  split at h
  case h_2=>cases h
  rename_i t a x aT
  obtain ⟨bg,o,o',ad,rfl,ae,_⟩:=KD aT au
  rw [ad] at h
  simp only [bne_iff_ne,ne_eq] at h
  show updO σ.objs [(bg,o')] k=σ.objs k
  rw [Bd,if_neg (fun e=>h e.symm)]
theorem yA.refl(o:b6):yA o o:=fun k n es h=>⟨es,h,rfl⟩
theorem abQ{σ:St}{y:Oper}(h:(hf y.op||hC y.op||fW y.op||F4 y.op)=true){r:AV}{b3:List (Key×cl)}(au:res T G σ y=some (r,b3)):yA σ.objs (updO σ.objs b3):=by
 rcases Bool.or_eq_true_iff.1 h with h|h
 ·rw [Q5 h au];exact yA.refl _
 ·unfold F4 at h
  split at h
  case h_2=>cases h
  rename_i t a x aT
  obtain ⟨bg,o,o',ad,rfl,ae,ax⟩:=KD aT au
  intro k n es ai
  rw [Bd]
  by_cases e:k=bg
  ·subst e
   rw [if_pos rfl]
   rw [ae] at ai
   rcases ax with⟨c,hb,rfl,rfl⟩|⟨m,atz,abR,rfl,rfl,an⟩
   ·cases ai
   ·cases ai;exact ⟨abR,rfl,an⟩
  ·rw [if_neg e];exact ⟨es,ai,rfl⟩
def Looks(T:bY)(G:cT)(x:Oper)(aC:Nat→AV)(o:b6)(dX:b6→Prop):Prop:=∀r b3,res T G ⟨aC,o⟩ x=some (r,b3)→b3=[]∧∀o',dX o'→res T G ⟨aC,o'⟩ x=some (r,[])
theorem F5{x y:Oper}{σ:St}{K:St→Prop}{dX:b6→Prop}(kQ:x.guard=none)(A2:fW x.op=false)(kN:x.apart all y=true)(an:Looks T G x σ.aC σ.objs dX)(aq:dX σ.objs)(gG:∀r b3,res T G σ y=some (r,b3)→dX (updO σ.objs b3))
  (h:vOp P T G all x (fun fg=>vOp P T G all y K fg) σ):vOp P T G all y (fun eT=>vOp P T G all x K eT) σ:=by
 obtain ⟨ag,aS,bN⟩:=Oper.apart_spec kN
 have mC:∀d,y.dst=some d→x.dst≠some d:=fun d ay ah=>aS d ah ay
 have jw:∀(K:St→Prop) σ,vOp P T G all x K σ=vDo P T G x K σ:=fun K σ=>by unfold vOp;simp only [kQ]
 simp only [jw] at h⊢
 have JT:res T G σ x≠none:=by
  intro aJ
  rw [lK aJ] at h
  have:=u5 h
  rw [A2] at this;cases this
 obtain ⟨p,aV⟩:=Option.ne_none_iff_exists'.1 JT
 obtain ⟨r,b3⟩:=p
 obtain ⟨rfl,ae⟩:=an r b3 aV
 have ad:vOp P T G all y K (σ.put x.dst r):=by
  rw [kn aV] at h;exact h
 have Bc:∀(K:St→Prop) objs,dX objs→vDo P T G x K ⟨σ.aC,objs⟩=K (St.put ⟨σ.aC,objs⟩ x.dst r):=fun K objs az=>kn (ae objs az)
 rw [vOp_eq,mA ag] at ad
 rw [vOp_eq]
 split at ad
 ·rename_i hw
  try simp only [hw]
  rw [hQ ag aS] at ad
  refine abO aq gG (fun objs q az ai=>?_) ad
  rw [hQ bN mC,Bc _ _ az,put_comm aS]
  exact ai
 ·rename_i hw
  try simp only [hw]
  show vDo P T G x K (σ.put y.dst _)
  rw [hQ bN mC]
  have e:vDo P T G x (fun aR=>K (aR.put y.dst (.d (.val (.tuple #[]))))) σ=K ((σ.put x.dst r).put y.dst (.d (.val (.tuple #[])))):=Bc (fun aR=>K (aR.put y.dst (.d (.val (.tuple #[]))))) σ.objs aq
  rw [e]
  exact ad
 ·exact ad.elim
theorem Q6{aC:Nat→AV}{x:Operand}(h:isD aC x=true):∃d,evA G aC x= .d d:=by
 unfold isD at h
 split at h
 ·split at h
  ·rename_i d ay;exact ⟨d,ay⟩
  ·cases h
 ·exact ⟨_,rfl⟩
 ·cases h
theorem abS(o o':b6)(x:D):someS o (.d x)=someS o' (.d x):=by
 unfold someS
 split<;>first|rfl|(rename_i h;cases h)|skip
 all_goals rfl
theorem Be{aC:Nat→AV}{x:Operand}(h:oc aC x=true):(∃d,evA G aC x= .d d)∨∃cs off,evA G aC x= .dO cs off:=by
 cases x with
 |tmp a=>
  simp only [oc] at h
  show(∃d,aC a= .d d)∨∃cs off,aC a= .dO cs off
  generalize aC a=v at h
  cases v<;>first|exact .inl ⟨_,rfl⟩|exact .inr ⟨_,_,rfl⟩|cases h
 |_=>cases h
theorem Q7(o o':b6)(x:D):lenA o (.d x)=lenA o' (.d x):=by
 unfold lenA
 split<;>first|rfl|(rename_i h;cases h)|skip
 all_goals rfl
theorem abT(o o':b6)(cs:List D)(off:Nat):lenA o (.dO cs off)=lenA o' (.dO cs off):=rfl
theorem abU{aC:Nat→AV}{op:Op}(h:dataOp aC op=true)(o o':b6):memOp T (evA G aC) o op=memOp T (evA G aC) o' op:=by
 cases op<;>simp only [dataOp,Bool.false_eq_true] at h
 case load t a=>
  rcases Be (G:=G) h with⟨d,e⟩|⟨cs,off,e⟩<;>simp only [memOp,e]
 case indexAddr t x i=>
  rcases Be (G:=G) h with⟨d,e⟩|⟨cs,off,e⟩
  ·simp only [memOp,e]
   cases d<;>rfl
  ·simp only [memOp,e]
 case lookup t m k ok=>
  rcases Be (G:=G) h with⟨d,e⟩|⟨cs,off,e⟩
  ·simp only [memOp,e]
   split
   ·cases d<;>first|rfl|skip
    rename_i v
    cases v<;>first|rfl|skip
    rename_i q
    cases q<;>rfl
   ·rfl
  ·simp only [memOp,e]
 case slice t x lo af eS=>
  cases eS with
  |some _=>cases h
  |none=>
   simp only at h
   rcases Be (G:=G) h with⟨d,e⟩|⟨cs,off,e⟩
   ·simp only [memOp,e,Q7 o o' d]
    cases d<;>rfl
   ·simp only [memOp,e,abT o o' cs off]
 case call c=>
  obtain ⟨callee,args,dd⟩:=c
  cases callee with
  |value=>rfl
  |invoke=>rfl
  |builtin b=>
   cases b<;>first|rfl|skip
   simp only at h
   simp only [memOp]
   split
   ·rename_i t x aQ aW
    rw [aW] at h
    simp only [List.all_cons,List.all_nil,Bool.and_true] at h
    rcases Be (G:=G) h with⟨d,e⟩|⟨cs,off,e⟩
    ·simp only [e]
     cases a0:T t with
     |none=>rfl
     |some i=>
      obtain ⟨aD,s,b,z⟩:=i
      cases aD
      case map k q=>
       cases d
       case val v=>
        cases v
        case map r=>cases r<;>rfl
        all_goals rfl
       all_goals rfl
      case slice q=>simp only [Q7 o o' d]
      case string=>
       cases d
       case val v=>cases v<;>rfl
       all_goals rfl
      all_goals rfl
    ·simp only [e]
     cases a0:T t with
     |none=>rfl
     |some i=>
      obtain ⟨aD,s,b,z⟩:=i
      cases aD<;>rfl
   ·rfl
theorem Q8{aC:Nat→AV}{op:Op}(h:dataOp aC op=true):hC op=true:=by
 cases op<;>simp only [dataOp,Bool.false_eq_true] at h<;>first|rfl|skip
 case call c=>
  obtain ⟨callee,args,dd⟩:=c
  cases callee with
  |value=>cases h
  |invoke=>cases h
  |builtin b=>cases b<;>first|rfl|cases h
theorem abV{x:Oper}{aC:Nat→AV}{o:b6}(h:dataOp aC x.op=true):Looks T G x aC o (fun _=>True):=by
 intro r b3 au
 have hm:=Q8 h
 unfold res at au
 split at au
 ·rename_i u hu
  cases au
  refine ⟨rfl,fun o' _=>?_⟩
  unfold res
  simp only [hu]
 ·rename_i aV
  split at au
  ·rename_i u hu
   cases au
   refine ⟨rfl,fun o' _=>?_⟩
   unfold res
   simp only at hu
   simp only [aV,abU h o' o,hu]
  ·rw [yq hm] at au;cases au
theorem abW{x:Oper}{op:BinOp}{t:TypeId}{a b:Operand}{q:TypeId}(ah:x.op= .binOp op t a b q){aC:Nat→AV}{o:b6}(aA:isD aC a=true)(ak:isD aC b=true):Looks T G x aC o (fun _=>True):=by
 intro r b3 au
 obtain ⟨d1,aQ⟩:=Q6 (G:=G) aA
 obtain ⟨d2,aW⟩:=Q6 (G:=G) ak
 unfold res at au
 rw [ah] at au
 cases aV:pureOp T (evA G aC) (.binOp op t a b q) with
 |some u=>
  rw [aV] at au
  cases au
  refine ⟨rfl,fun o' _=>?_⟩
  unfold res
  rw [ah,aV]
 |none=>
  rw [aV] at au
  simp only at au
  have hm:∀o',memOp T (evA G aC) o' (.binOp op t a b q)=memOp T (evA G aC) o (.binOp op t a b q):=by
   intro o'
   simp only [memOp,aQ,aW,abS o' o]
  cases fT:memOp T (evA G aC) o (.binOp op t a b q) with
  |some u=>
   rw [fT] at au
   cases au
   refine ⟨rfl,fun o' _=>?_⟩
   unfold res
   rw [ah,aV]
   simp only [hm o',fT]
  |none=>rw [fT] at au;simp [fF,effOp0] at au
theorem abX{x:Oper}{t:TypeId}{a:Operand}{k:Key}(ah:x.op= .load t a){aC:Nat→AV}{o:b6}(aA:keyOf aC a=some k):Looks T G x aC o (KC k o):=by
 intro r b3 au
 have he:keyA (evA G aC a)=some k:=by rw [KB];exact aA
 unfold res at au
 rw [ah] at au
 simp only [pureOp] at au
 have hm:∀o',o' k=o k→memOp T (evA G aC) o' (.load t a)=memOp T (evA G aC) o (.load t a):=by
  intro o' az
  simp only [memOp]
  generalize evA G aC a=v at he⊢
  cases v<;>simp only [keyA,reduceCtorEq,Option.some.injEq] at he
  ·subst he;simp only [az]
  ·subst he;simp only [az]
 cases fT:memOp T (evA G aC) o (.load t a) with
 |some u=>
  rw [fT] at au
  cases au
  refine ⟨rfl,fun o' az=>?_⟩
  unfold res
  rw [ah]
  simp only [pureOp,hm o' az,fT]
 |none=>rw [fT] at au;simp [fF,effOp0] at au
theorem abY{x:Oper}{t:TypeId}{a b:Operand}(ah:x.op= .indexAddr t a b){aC:Nat→AV}{o:b6}:Looks T G x aC o (yA o):=by
 intro r b3 au
 unfold res at au
 rw [ah] at au
 simp only [pureOp] at au
 cases fT:memOp T (evA G aC) o (.indexAddr t a b) with
 |some u=>
  rw [fT] at au
  cases au
  refine ⟨rfl,fun o' az=>?_⟩
  have hm:memOp T (evA G aC) o' (.indexAddr t a b)=some r:=by
   simp only [memOp] at fT⊢
   split at fT
   ·split at fT
    ·split at fT
     ·rename_i aJ
      rw [if_pos aJ]
      split at fT<;>first|exact fT|skip
      rename_i key aM
      cases ai:o key with
      |none=>rw [ai] at fT;cases fT
      |some gq=>
       cases gq with
       |row k es=>
        obtain ⟨gZ,ad,ae⟩:=az key k es ai
        rw [ai] at fT
        rw [ad]
        simp only [ae] at fT⊢
        exact fT
       |dead=>rw [ai] at fT;cases fT
       |box=>rw [ai] at fT;cases fT
       |map=>rw [ai] at fT;cases fT
     ·cases fT
    ·cases fT
   ·exact fT
   ·cases fT
  unfold res
  rw [ah]
  simp only [pureOp,hm]
 |none=>rw [fT] at au;simp [fF,effOp0] at au
theorem abZ{o:b6}{k bg:Key}{a b:cl}(h:k≠bg):updO (updO o [(k,a)]) [(bg,b)]=updO (updO o [(bg,b)]) [(k,a)]:=by
 funext j
 simp only [Bd]
 by_cases ad:j=k<;>by_cases ae:j=bg<;>simp_all
theorem Q9{y:Oper}{t:TypeId}{a x:Operand}{k:Key}(aT:y.op= .store t a x){aC:Nat→AV}{o o':b6}(aA:keyOf aC a=some k)(az:o' k=o k):res T G ⟨aC,o'⟩ y=res T G ⟨aC,o⟩ y:=by
 have he:keyA (evA G aC a)=some k:=by rw [KB];exact aA
 unfold res
 rw [aT]
 simp only [pureOp,memOp,Qj,effOp0]
 generalize evA G aC a=v at he⊢
 cases v<;>simp only [keyA,reduceCtorEq,Option.some.injEq] at he
 ·subst he;simp only [az]
 ·subst he;simp only [az]
theorem ab0{x y:Oper}{σ:St}{K:St→Prop}{t t':TypeId}{a cr v iA:Operand}{k bg:Key}(ah:x.op= .store t a v)(aT:y.op= .store t' cr iA)(aA:keyOf σ.aC a=some k)(Bf:keyOf σ.aC cr=some bg)(cc:bg≠k)
  (kQ:x.guard=none) (kN:x.apart all y=true) (h:vOp P T G all x (fun fg=>vOp P T G all y K fg) σ):vOp P T G all y (fun eT=>vOp P T G all x K eT) σ:=by
 obtain ⟨ag,aS,bN⟩:=Oper.apart_spec kN
 have mC:∀d,y.dst=some d→x.dst≠some d:=fun d ay ah=>aS d ah ay
 have jw:∀(K:St→Prop) σ,vOp P T G all x K σ=vDo P T G x K σ:=fun K σ=>by unfold vOp;simp only [kQ]
 simp only [jw] at h⊢
 have Ra:∀{z:Oper} {tt:TypeId} {p q:Operand} {τ:St} {K':St→Prop},z.op= .store tt p q→vDo P T G z K' τ→∃r cb fH,res T G τ z=some (r,[(cb,fH)])∧keyOf τ.aC p=some cb∧K' (τ.step z.dst r [(cb,fH)]):=by
  intro z tt p q τ K' bz bp
  cases au:res T G τ z with
  |none=>
   rw [lK au] at bp
   have:=u5 bp
   rw [bz] at this;cases this
  |some u=>
   obtain ⟨r,b3⟩:=u
   obtain ⟨cb,o,fH,br,rfl,_,_⟩:=KD bz au
   exact ⟨r,cb,fH,rfl,br,by rw [kn au] at bp;exact bp⟩
 obtain ⟨r,cb,fH,br,bj,bS⟩:=Ra ah h
 rw [aA] at bj;cases bj
 have vh:vOp P T G all y K (St.put ⟨σ.aC,updO σ.objs [(k,fH)]⟩ x.dst r):=bS
 have Rb:∀(lh:b6),lh k=σ.objs k→∀K':St→Prop,vDo P T G x K' ⟨σ.aC,lh⟩=K' (St.put ⟨σ.aC,updO lh [(k,fH)]⟩ x.dst r):=by
  intro lh az K'
  have:res T G ⟨σ.aC,lh⟩ x=some (r,[(k,fH)]):=by rw [Q9 ah aA az];exact br
  exact kn this
 rw [vOp_eq,mA ag] at vh
 rw [vOp_eq]
 have ab1:wantA all ⟨σ.aC,updO σ.objs [(k,fH)]⟩ y=wantA all σ y:=rfl
 rw [ab1] at vh
 split at vh
 ·rename_i hw
  try simp only [hw]
  rw [hQ ag aS] at vh
  obtain ⟨r2,dx,lh,dT,dw,gA⟩:=Ra aT vh
  have Rc:keyOf σ.aC cr=some dx:=dw
  rw [Bf] at Rc;cases Rc
  have ab2:res T G σ y=some (r2,[(bg,lh)]):=by
   rw [←dT]
   exact (Q9 (T:=T) (G:=G) aT (o:=σ.objs) (o':=updO σ.objs [(k,fH)]) Bf (by rw [Bd,if_neg cc])).symm
  rw [kn ab2]
  show vDo P T G x K (St.put ⟨σ.aC,updO σ.objs [(bg,lh)]⟩ y.dst r2)
  rw [hQ bN mC,Rb _ (by rw [Bd,if_neg (fun e=>cc e.symm)]),put_comm aS,abZ cc]
  exact gA
 ·rename_i hw
  try simp only [hw]
  show vDo P T G x K (σ.put y.dst _)
  rw [hQ bN mC]
  have e:=Rb σ.objs rfl (fun aR=>K (aR.put y.dst (.d (.val (.tuple #[])))))
  have cX:vDo P T G x (fun aR=>K (aR.put y.dst (.d (.val (.tuple #[]))))) σ=_:=e
  rw [cX]
  exact vh
 ·exact vh.elim
theorem ab3{x y:Oper}{σ:St}{K:St→Prop}(kQ:x.guard=none)(kN:x.apart all y=true)(h:okPair σ.aC x y=true)(H:vOp P T G all x (fun fg=>vOp P T G all y K fg) σ):
  vOp P T G all y (fun eT=>vOp P T G all x K eT) σ:=by
 unfold okPair at h
 rcases Bool.or_eq_true_iff.1 h with h|h
 ·rcases Bool.or_eq_true_iff.1 h with h|h
  ·exact swap kN h H
  ·refine F5 kQ ?_ kN (abV h) trivial (fun _ _ _=>trivial) H
   cases aj:fW x.op with
   |false=>rfl
   |true=>have:=AZ aj;rw [Q8 h] at this;cases this.2.1
 split at h
 ·rename_i op t a b q ah
  rw [Bool.and_eq_true] at h
  exact F5 kQ (by rw [ah];rfl) kN (abW ah h.1 h.2) trivial (fun _ _ _=>trivial) H
 ·rename_i t a ah
  split at h
  case h_2=>cases h
  rename_i k ai
  simp only [Bool.or_eq_true] at h
  have other:(hf y.op||hC y.op||fW y.op||isStoreK σ.aC k y.op)=true→vOp P T G all y (fun eT=>vOp P T G all x K eT) σ:=fun bh=>
   F5 kQ (by rw [ah];rfl) kN (abX ah ai) (rfl:KC k σ.objs σ.objs) (fun _ _ au=>abP bh au) H
  rcases h with(((h|h)|h)|h)|h
  ·rw [Bool.and_eq_true] at h
   obtain ⟨ad,ae⟩:=h
   unfold isBx at ad
   split at ad
   case h_2=>cases ad
   rename_i ab
   split at ad
   case h_2=>cases ad
   rename_i yB off aB
   refine Q4 ah kQ aB ?_ kN H
   intro t' cr iA he
   rw [he] at ae
   cases ae
  ·exact other (by simp [h])
  ·exact other (by simp [h])
  ·exact other (by simp [h])
  ·exact other (by simp [h])
 ·rename_i t a b ah
  exact F5 kQ (by rw [ah];rfl) kN (abY ah) (yA.refl _) (fun _ _ au=>abQ h au) H
 ·rename_i t a v ah
  split at h
  case h_2=>cases h
  rename_i k ai
  unfold isStoreK at h
  split at h
  case h_2=>cases h
  rename_i t' cr iA aT
  split at h
  case h_2=>cases h
  rename_i bg dZ
  exact ab0 ah aT ai dZ (by simpa using h) kQ kN H
 ·cases h
def xT:Op→List Tmp
 | .binOp _ _ a b _=>(match a with| .tmp t=>[t]|_=>[])++(match b with| .tmp t=>[t]|_=>[])
 | .load _ (.tmp a)=>[a]
 | .store _ (.tmp a) _=>[a]
 | .indexAddr _ (.tmp a) _=>[a]
 | .lookup _ (.tmp a) _ _=>[a]
 | .slice _ (.tmp a) _ _ _=>[a]
 | .call ⟨.builtin .len,args,_⟩=>args.toList.filterMap fun x=>match x with| .tmp t=>some t|_=>none
 |_=>[]
def addrT:Op→List Tmp
 | .store _ (.tmp a) _=>[a]
 |_=>[]
theorem KE{s s':Nat→AV}{x:Operand}(h:∀t,x= .tmp t→s t=s' t):keyOf s x=keyOf s' x:=by
 cases x with
 |tmp t=>simp only [keyOf,h t rfl]
 |_=>rfl
theorem Rd{s s':Nat→AV}{x:Operand}(h:∀t,x= .tmp t→s t=s' t):isD s x=isD s' x:=by
 cases x with
 |tmp t=>simp only [isD,h t rfl]
 |_=>rfl
theorem ab4{s s':Nat→AV}{x:Operand}(h:∀t,x= .tmp t→s t=s' t):isBx s x=isBx s' x:=by
 cases x with
 |tmp t=>simp only [isBx,h t rfl]
 |_=>rfl
theorem ab5{s s':Nat→AV}{x y:Oper}(h:∀t,t∈xT x.op∨t∈addrT y.op→s t=s' t):okPair s x y=okPair s' x y:=by
 have aT:∀k,isStoreK s k y.op=isStoreK s' k y.op:=by
  intro k
  unfold isStoreK
  split
  ·rename_i t a v he
   rw [KE (s:=s) (s':=s') (x:=a) (fun q bL=>h q (.inr (by rw [he,bL];simp [addrT])))]
  ·rfl
 have ay:dataOp s x.op=dataOp s' x.op:=by
  have ah:∀t,t∈xT x.op→s t=s' t:=fun t aG=>h t (.inl aG)
  generalize x.op=op at ah
  have one:∀a:Operand,(∀t,a= .tmp t→t∈xT op)→oc s a=oc s' a:=by
   intro a aA
   cases a with
   |tmp t=>simp only [oc,ah t (aA t rfl)]
   |_=>rfl
  cases op<;>simp only [dataOp]
  case load t a=>exact one a (by rintro t rfl;simp [xT])
  case indexAddr t a i=>exact one a (by rintro t rfl;simp [xT])
  case lookup t a k ok=>exact one a (by rintro t rfl;simp [xT])
  case slice t a lo af eS=>
   cases eS with
   |none=>exact one a (by rintro t rfl;simp [xT])
   |some _=>rfl
  case call c=>
   obtain ⟨callee,args,dd⟩:=c
   cases callee with
   |value=>rfl
   |invoke=>rfl
   |builtin b=>
    cases b<;>first|rfl|skip
    simp only
    rw [Bool.eq_iff_iff,List.all_eq_true,List.all_eq_true]
    have aA:∀a∈args.toList,oc s a=oc s' a:=fun a aA=>one a (by rintro t rfl;simp only [xT,List.mem_filterMap];exact ⟨_,aA,rfl⟩)
    exact ⟨fun h a hm=>by rw [←aA a hm];exact h a hm,fun h a hm=>by rw [aA a hm];exact h a hm⟩
 unfold okPair
 rw [ay]
 congr 1
 split
 ·rename_i op t a b q ah
  have aA:∀t,a= .tmp t→s t=s' t:=fun t aG=>h t (.inl (by rw [ah,aG];simp [xT]))
  have ak:∀t,b= .tmp t→s t=s' t:=fun t aG=>h t (.inl (by rw [ah,aG];simp [xT]))
  rw [Rd aA,Rd ak]
 ·rename_i t a ah
  have aA:∀t,a= .tmp t→s t=s' t:=fun t aG=>h t (.inl (by rw [ah,aG];simp [xT]))
  rw [KE aA,ab4 aA]
  split
  ·rw [aT]
  ·rfl
 ·rfl
 ·rename_i t a v ah
  have aA:∀t,a= .tmp t→s t=s' t:=fun t aG=>h t (.inl (by rw [ah,aG];simp [xT]))
  rw [KE aA]
  split
  ·rw [aT]
  ·rfl
 ·rfl
theorem ab6{y:Oper}{σ:St}{K:St→Prop}{L:List Tmp}(ay:∀a∈L,y.dst≠some a)(h:vOp P T G all y K σ):vOp P T G all y (fun aR=>(∀a∈L,aR.aC a=σ.aC a)∧K aR) σ:=by
 have aV:∀(objs:b6) (r:AV),∀a∈L,(St.put ⟨σ.aC,objs⟩ y.dst r).aC a=σ.aC a:=fun objs r a aA=>by
  cases aT:y.dst with
  |none=>rfl
  |some d=>
   have:a≠d:=by rintro rfl;exact ay a aA aT
   simp only [St.put,cq _ _ this]
 rw [vOp_eq] at h⊢
 split at h
 ·rename_i hw
  try simp only [hw]
  exact tj (fun objs r ai=>⟨aV objs r,ai⟩) h
 ·rename_i hw
  try simp only [hw]
  exact ⟨aV σ.objs _,h⟩
 ·exact h.elim
theorem ab7{x:Oper}{σ:St}{p:Prop}(h:vOp P T G all x (fun _=>p) σ):p:=by
 rw [vOp_eq] at h
 split at h
 ·unfold vDo at h
  split at h
  ·exact h
  ·unfold vCall at h
   split at h
   ·split at h
    ·obtain ⟨_,_,_,_,_,_,⟨r,lL⟩,_,q⟩:=h
     exact q r (by rw [lL])
    ·exact h.elim
   ·exact h.elim
 ·exact h
 ·exact h.elim
theorem ab8{K:St→Prop}{i:Nat}{eg:Oper}(af:all[i]?=some eg)(kQ:eg.guard=none){B:List Nat}(fX:∀j cC,j∈B→all[j]?=some cC→∃e∈cC.after,Region.binds .any e=true∧(e.on=i∨e.on∈B)){s0:Nat→AV}{L:List Tmp}(ab9:∀t∈xT eg.op,t∈L):
  ∀(fuel:Nat) (listed:Array Bool) (σ:St),(∀t∈L,σ.aC t=s0 t)→
  (∀j,j∈B→listed.getD j true=false)→
  (∀j cC,all[j]?=some cC→j≠i→listed.getD j true=false→j∉B→eg.apart all cC=true∧okPair s0 eg cC=true∧(∀t∈L,cC.dst≠some t)∧∀t∈addrT cC.op,t∈L)→
  i∈Region.ready .any all listed→amOp P T G all i (hD P T G all K fuel (listed.setIfInBounds i true)) σ→hD P T G all K (fuel+1) listed σ:=by
 intro fuel
 induction fuel with
 |zero=>
  intro listed σ c6 o0 mD au H
  refine ⟨fun h=>(by rw [h] at au;cases au),fun j aF=>?_⟩
  by_cases hE:j=i
  ·subst hE;exact H
  ·have hm:=ready_mono aF hE
   exfalso
   have key:Region.ready .any all (listed.setIfInBounds i true)=[]:=by
    have KF:=tk (K':=fun _=>Region.ready .any all (listed.setIfInBounds i true)=[]) (fun aR bh=>bh.1) H
    unfold amOp at KF
    simp only [af] at KF
    exact ab7 KF
   rw [key] at hm;cases hm
 |succ fuel ih=>
  intro listed σ c6 o0 mD au H
  refine ⟨fun h=>(by rw [h] at au;cases au),fun j aF=>?_⟩
  by_cases hE:j=i
  ·subst hE;exact H
  ·obtain ⟨tl,cC,hF,fp⟩:=mem_ready.1 aF
   have rD:∀k,listed.getD k true=false→listed[k]?.getD false=true→False:=fun k aq ad=>by
    rcases Nat.lt_or_ge k listed.size with bh|bh
    ·simp [bh] at aq ad;rw [aq] at ad;cases ad
    ·simp [Array.getElem?_eq_none bh] at ad
   have tn:j∉B:=fun A7=>by
    obtain ⟨e,he,ak,kO⟩:=fX j cC A7 hF
    have ad:=fp e he ak
    rcases kO with kO|kO
    ·rw [kO] at ad
     exact rD i (mem_ready.1 au).1 (by simpa using ad)
    ·exact rD _ (o0 _ kO) (by simpa using ad)
   obtain ⟨dT,dw,gA,o3⟩:=mD j cC hF hE tl tn
   have ad:amOp P T G all i (fun fg=>amOp P T G all j (hD P T G all K fuel ((listed.setIfInBounds i true).setIfInBounds j true)) fg) σ:=tk (fun fg rM=>rM.2 j (ready_mono aF hE)) H
   have ae:amOp P T G all j (fun eT=>(∀a∈L,eT.aC a=σ.aC a)∧amOp P T G all i (hD P T G all K fuel ((listed.setIfInBounds i true).setIfInBounds j true)) eT) σ:=by
    unfold amOp at ad⊢
    simp only [af,hF] at ad⊢
    have a7:okPair σ.aC eg cC=true:=by
     rw [←dw]
     refine ab5 fun t aG=>c6 t ?_
     rcases aG with aG|aG
     ·exact ab9 t aG
     ·exact o3 t aG
    exact ab6 gA (ab3 kQ dT a7 ad)
   have A8:∀k ok,all[k]?=some ok→k≠i→(listed.setIfInBounds j true).getD k true=false→
     k∉B→eg.apart all ok=true∧okPair s0 eg ok=true∧(∀t∈L,ok.dst≠some t)∧∀t∈addrT ok.op,t∈L:=fun k ok ai o1 mE gP=>by
    refine mD k ok ai o1 ?_ gP
    by_cases fe:j=k
    ·subst fe;exact tl
    ·rw [getD_set_ne true fe] at mE;exact mE
   refine tk (fun eT ax=>ih (listed.setIfInBounds j true) eT (fun t aG=>(ax.1 t aG).trans (c6 t aG)) (fun k ai=>by
    have fe:j≠k:=by rintro rfl;exact tn ai
    rw [getD_set_ne true fe];exact o0 k ai) A8 (ready_mono au (Ne.symm hE)) ?_) ae
   rw [Array.setIfInBounds_comm _ _ hE]
   exact ax.2
end
end Go.Am
namespace Go.Am
structure V where
 name:ByteArray
 bool:Bool
 lo:Int
 af:Int
def V.cells(v:V):List D:=[aI v.name,ar v.bool,J v.lo,J v.af]
def V.d(v:V):D:= .agg v.cells
def a8(l:List V):D:= .aE 4 (l.map V.cells)
def nk(n:Int):D:= .val (.int .u8 n)
def lj(n:Int):Prop:=-9223372036854775808≤n∧n≤9223372036854775807
def V.ok(v:V):Prop:=lj v.lo∧lj v.af∧v.name.size≤9223372036854775807
def V.span(v:V):Int:=if v.bool then 2 else if v.lo>v.af then 0 else if v.af-v.lo<1073741824 then v.af-v.lo+1 else 1073741825
def bitsOf(n:Int):Nat:=if n≤1 then 0 else Nat.log2 (n-1).toNat+1
theorem aca{n:Int}{k:Nat}(ad:∀j:Nat,j<k→(2:Int)^j<n)(ae:n≤2^k):bitsOf n=k:=by
 unfold bitsOf
 cases k with
 |zero=>simp at ae;simp [ae]
 |succ k=>
  have ax:=ad k (by omega)
  have aV:(0:Int)<2^k:=Int.pow_pos (by omega)
  rw [if_neg (by omega)]
  have e:Nat.log2 (n-1).toNat=k:=by
   have aA:(2:Nat)^k≤(n-1).toNat:=by
    have:((2^k:Nat):Int)=2^k:=by simp
    omega
   have ak:(n-1).toNat<2^(k+1):=by
    have:((2^(k+1):Nat):Int)=2^(k+1):=by simp
    omega
   exact (Nat.log2_eq_iff (by have:=Nat.two_pow_pos k;omega)).2 ⟨aA,ak⟩
  omega
theorem Re{n:Int}(h:1<n):bitsOf n=bitsOf (n/2+n%2)+1:=by
 unfold bitsOf
 rw [if_neg (by omega)]
 by_cases ae:n=2
 ·subst ae;decide
 ·rw [if_neg (by omega)]
  have e:(n/2+n%2-1).toNat=(n-1).toNat/2:=by omega
  rw [e]
  have ax:(n-1).toNat≠0:=by omega
  have aZ:(n-1).toNat/2≠0:=by omega
  obtain ⟨a,b⟩:=(Nat.log2_eq_iff aZ).1 rfl
  have:Nat.log2 (n-1).toNat=Nat.log2 ((n-1).toNat/2)+1:=by
   refine (Nat.log2_eq_iff ax).2 ⟨?_,?_⟩
   ·rw [Nat.pow_succ];omega
   ·rw [Nat.pow_succ];omega
  omega
def qu(c:Int):Bool:=(decide (c≥97)&&decide (c≤122))||(decide (c≥65)&&decide (c≤90))
def vi(c:Int):Bool:=decide (c≥48)&&decide (c≤57)
def kR(c:Int):Bool:=qu c||vi c||(c==95)
theorem Rf{lo af:Int}(ad:lj lo)(ae:lj af)(h:lo≤af):IntKind.u64.wrap (IntKind.u64.wrap af-IntKind.u64.wrap lo)=af-lo:=by
 unfold lj at ad ae
 simp only [IntKind.wrap_u64]
 omega
theorem V.Rg{v:V}(h:v.bool=true):v.span=2:=by simp [V.span,h]
theorem V.Rh{v:V}(h:v.bool=false)(ad:v.lo>v.af):v.span=0:=by simp [V.span,h,ad]
theorem V.KG{v:V}(h:v.bool=false)(ad:v.lo≤v.af)(ae:v.af-v.lo<1073741824):v.span=v.af-v.lo+1:=by simp [V.span,h,ae];omega
theorem V.KH{v:V}(h:v.bool=false)(ad:v.lo≤v.af)(ae:1073741824≤v.af-v.lo):v.span=1073741825:=by simp [V.span,h,ae];omega
def has(x:ByteArray)(l:List ByteArray):Bool:=l.any fun y=>decide (y=x)
def idxOf(x:ByteArray)(l:List ByteArray):Int:=match l.findIdx? (fun y=>decide (y=x)) with
 |some i=>(i:Nat)
 |none=>-1
theorem Ri{x:ByteArray}{l:List ByteArray}(h:∀j:Nat,j<l.length→l[j]?≠some x):idxOf x l=-1:=by
 unfold idxOf
 have:l.findIdx? (fun y=>decide (y=x))=none:=by
  rw [List.findIdx?_eq_none_iff]
  intro y aT
  obtain ⟨j,aF⟩:=List.mem_iff_getElem?.1 aT
  have ad:=h j (List.getElem?_eq_some_iff.1 aF).1
  rw [aF] at ad
  simpa using ad
 rw [this]
theorem Rj{x:ByteArray}{l:List ByteArray}{i:Nat}(h:∀j:Nat,j<i→l[j]?≠some x)(af:l[i]?=some x):idxOf x l=i:=by
 unfold idxOf
 obtain ⟨bI,b9⟩:=List.getElem?_eq_some_iff.1 af
 have:l.findIdx? (fun y=>decide (y=x))=some i:=by
  rw [List.findIdx?_eq_some_iff_getElem]
  refine ⟨bI,by simpa using b9,fun j aF=>?_⟩
  have ad:=h j aF
  rw [List.getElem?_eq_getElem (by omega)] at ad
  simpa using ad
 rw [this]
theorem Rk(x:ByteArray)(l:List ByteArray):decide (idxOf x l≥0)=has x l:=by
 unfold idxOf has
 cases h:l.findIdx? (fun y=>decide (y=x)) with
 |none=>
  rw [List.findIdx?_eq_none_iff] at h
  have:l.any (fun y=>decide (y=x))=false:=by rw [List.any_eq_false];intro y aT;simpa using h y aT
  rw [this];rfl
 |some i=>
  obtain ⟨ad,ae,_⟩:=List.findIdx?_eq_some_iff_getElem.1 h
  have:l.any (fun y=>decide (y=x))=true:=List.any_eq_true.2 ⟨_,List.getElem_mem ad,ae⟩
  rw [this]
  simp
theorem Rl{x:ByteArray}{l:List ByteArray}{i:Nat}(h:l[i]?=some x):has x l=true:=
 List.any_eq_true.2 ⟨x,List.mem_of_getElem? h,by simp⟩
theorem Rm{x:ByteArray}{l:List ByteArray}(h:∀j:Nat,j<l.length→l[j]?≠some x):has x l=false:=by
 unfold has
 rw [List.any_eq_false]
 intro y aT
 obtain ⟨j,aF⟩:=List.mem_iff_getElem?.1 aT
 have ad:=h j (List.getElem?_eq_some_iff.1 aF).1
 rw [aF] at ad
 simpa using ad
def mG(p:Int→Bool)(s:ByteArray)(i:Nat):Bool:=match s[i]? with
 |some b=>p b.toNat
 |none=>false
def lN(p:Int→Bool)(s:ByteArray):Nat:=((List.range (s.size+1)).find? fun i=>!mG p s i).getD 0
theorem F6{s:ByteArray}{i:Nat}:s[i]?=if h:i<s.size then some s[i] else none:=rfl
theorem acb{p:Int→Bool}{s:ByteArray}{i:Nat}(h:mG p s i=true):i<s.size:=by
 unfold mG at h
 rw [F6] at h
 by_cases ad:i<s.size
 ·exact ad
 ·rw [dif_neg ad] at h;cases h
def words:List ByteArray:=[⟨#[65]⟩,⟨#[65,70]⟩,⟨#[65,71]⟩,⟨#[65,88]⟩,⟨#[69]⟩,⟨#[69,70]⟩,⟨#[69,71]⟩,⟨#[69,88]⟩,⟨#[85]⟩,⟨#[98,111,111,108]⟩,⟨#[100,101,102]⟩,⟨#[101,108,115,101]⟩,⟨#[102,97,105,114]⟩,⟨#[102,97,108,115,101]⟩,⟨#[105,102]⟩,⟨#[105,110,105,116]⟩,⟨#[105,110,118,97,114]⟩,⟨#[109,111,100]⟩,⟨#[110,101,120,116]⟩,⟨#[115,112,101,99]⟩,⟨#[116,104,101,110]⟩,⟨#[116,114,97,110,115]⟩,⟨#[116,114,117,101]⟩,⟨#[118,97,114]⟩]
def isName(s:ByteArray):Bool:=decide ((s.size:Int)≥1)&&decide ((s.size:Int)≤24)&&mG qu s 0&&((lN kR s:Int)==(s.size:Int))&&!has s words
theorem Rn(s:ByteArray):(decide (s=⟨#[]⟩)=true∧decide ((s.size:Int)≥1)=false)∨∃b,decide (s=⟨#[]⟩)=false∧decide ((s.size:Int)≥1)=true∧s[0]?=some b:=by
 by_cases h:0<s.size
 ·refine .inr ⟨s[0],?_,?_,?_⟩
  ·have:s≠⟨#[]⟩:=by rintro rfl;exact absurd h (by decide)
   simpa using this
  ·simp;omega
  ·rw [F6,dif_pos h]
 ·refine .inl ⟨?_,?_⟩
  ·have aq:s.size=0:=by omega
   have:s=⟨#[]⟩:=by
    cases s with|mk d=>
    congr 1
    exact Array.eq_empty_of_size_eq_zero aq
   simpa using this
  ·simp;omega
def tz(v:V):Bool:=decide ((if v.af>v.lo then v.af else v.lo)>255)||decide ((if v.af<v.lo then v.af else v.lo)< -255)
def F7(seen:List V)(v:V):Int:=
 if !isName v.name then 12 else if has v.name (seen.map V.name) then 6 else if v.bool&&(v.lo !=0||v.af !=0) then 3
 else if !v.bool&&(decide (v.lo>v.af)||tz v||decide (IntKind.i64.wrap (v.af-v.lo)≥64)) then 2 else 0
def h0(l:List V)(i:Nat):Int:=match l[i]? with
 |some v=>F7 (l.take i) v
 |none=>0
def jS(l:List V):Int×Int:=match(List.range l.length).find? (fun i=>h0 l i !=0) with
 |some i=>((i:Int),h0 l i)
 |none=>(0,0)
theorem Ro{l:List V}{i:Nat}{e:Int}(h:∀j:Nat,j<i→h0 l j=0)(af:i<l.length)(he:h0 l i=e)(aq:e≠0):jS l=((i:Int),e):=by
 unfold jS
 have:(List.range l.length).find? (fun i=>h0 l i !=0)=some i:=by
  rw [List.find?_range_eq_some]
  exact ⟨by simpa [he] using aq,by simpa using af,fun j aF=>by simp [h j aF]⟩
 rw [this]
 simp [he]
theorem Rp{l:List V}(h:∀j:Nat,j<l.length→h0 l j=0):jS l=(0,0):=by
 unfold jS
 have:(List.range l.length).find? (fun i=>h0 l i !=0)=none:=by
  rw [List.find?_eq_none]
  intro j aF
  simp [h j (by simpa using aF)]
 rw [this]
theorem acd{v:V}(aM:v.ok):(!v.bool&&(decide (v.lo>v.af)||tz v||decide (IntKind.i64.wrap (v.af-v.lo)≥64)))=
  (!v.bool&&(decide (v.lo>v.af)||!(decide (v.lo≥-255)&&decide (v.lo≤255))||!(decide (v.af≥-255)&&decide (v.af≤255))||decide (v.span>64))):=by
 cases ak:v.bool with
 |true=>rfl
 |false=>
  by_cases ad:v.lo>v.af
  ·simp [ad]
  ·have c3:v.lo≤v.af:=by omega
   by_cases ae:-255≤v.lo∧v.af≤255
   ·have aQ:tz v=false:=by
     unfold tz
     split<;>(try split)<;>simp<;>omega
    have aW:(decide (v.lo≥-255)&&decide (v.lo≤255))=true:=by simp;omega
    have bA:(decide (v.af≥-255)&&decide (v.af≤255))=true:=by simp;omega
    rw [V.KG ak c3 (by omega),aQ,aW,bA,wrap64 _ (by omega) (by omega)]
    have cz:decide (v.lo>v.af)=false:=by simpa using c3
    have dD:decide (v.af-v.lo≥64)=decide (v.af-v.lo+1>64):=by rw [decide_eq_decide];omega
    rw [cz,dD]
    rfl
   ·have aQ:tz v=true:=by
     unfold tz
     split<;>(try split)<;>simp<;>omega
    have aW:(!(decide (v.lo≥-255)&&decide (v.lo≤255))||!(decide (v.af≥-255)&&decide (v.af≤255)))=true:=by simp;omega
    rw [aQ]
    revert aW
    generalize decide (v.lo>v.af)=p
    generalize (decide (v.lo≥-255)&&decide (v.lo≤255))=q
    generalize (decide (v.af≥-255)&&decide (v.af≤255))=r
    cases p<;>cases q<;>cases r<;>simp
theorem ace{l:List V}{x:ByteArray}{i:Nat}(h:∀j:Nat,j<i→(l.map V.name)[j]?≠some x):has x ((l.take i).map V.name)=false:=by
 refine Rm fun j aF=>?_
 rw [List.map_take,List.getElem?_take]
 simp at aF
 rw [if_pos (by omega)]
 exact h j (by omega)
theorem acf{l:List V}{w:V}{k i:Nat}(ai:k<i)(hw:l[k]?=some w):has w.name ((l.take i).map V.name)=true:=by
 refine Rl (i:=k) ?_
 rw [List.map_take,List.getElem?_take,if_pos ai,List.getElem?_map,hw];rfl
end Go.Am
