/- Steps, joins, and nil slices that become rows of our own. No condition. -/
import Derived.Test.YtknmgdnhongcnaaGreatDoorEngB
set_option linter.all false
set_option linter.unnecessarySimpa false
namespace Go.Am
set_option linter.unusedVariables false
section
variable{P:Program}{T:bX}{G:cT}{N:Nat}{σ:St}{Q:Exit→St→Prop}{all:Array Oper}
theorem aa3(l:List Oper):∀(k:Nat) (σ:St) (K:St→Prop),(∀j,l[j]?=all[k+j]?)→vOps P T G all l K σ→vOrd P T G all (List.range' k l.length) K σ:=by
 induction l with
 |nil=>intro k σ K _ h;exact h
 |cons o l ih=>
  intro k σ K an h
  have aq:all[k]?=some o:=by simpa using(an 0).symm
  simp only [List.length_cons,List.range'_succ,vOrd,aq]
  refine AQ (fun aR rA=>ih (k+1) aR K (fun j=>by have:=an (j+1);simpa [Nat.add_assoc,Nat.add_comm 1 j] using this) rA) h
theorem aa4(a2:dj P T)(hm:P.follows .mixedOrders=true){id:Nat}{ops:Array Oper}(bV:dstOk N ops=true)(yg:ordFrom T ops (List.range ops.size) (Array.replicate ops.size false)=true)
  (h:vOps P T G ops ops.toList (Q .normal) σ):fW P T G N (.region id ops true) σ Q:=by
 refine aaK a2 hm bV (List.range ops.size) (by simp) yg ?_
 rw [List.range_eq_range']
 have:=aa3 (P:=P) (T:=T) (G:=G) (all:=ops) ops.toList 0 σ (Q .normal) (fun j=>by simp) h
 simpa using this
end
end Go.Am
namespace Go.Am
set_option linter.unusedVariables false
section
variable{P:Program}{T:bX}{G:cT}{N:Nat}{σ fi:St}{Q:Exit→St→Prop}{id:Nat}{ops:Array Oper}
end
theorem wrap64(x:Int)(ad:-9223372036854775808≤x)(ae:x≤9223372036854775807):IntKind.i64.wrap x=x:=by
 rw [IntKind.wrap_i64];omega
def Fin(T:bX)(rs:List ResultVar)(dV:D→Prop)(e:Exit)(aR:St):Prop:=
 (e= .normal∨e= .ret)∧∃r d x,resA T aR rs=some r∧toD aR.objs r=some d∧d.le x∧dV x
theorem getD_cons_zero{α:Type}(x:α)(l:List α)(d:α):(x::l).getD 0 d=x:=rfl
theorem getD_cons_succ{α:Type}(x:α)(l:List α)(n:Nat)(d:α):(x::l).getD (n+1) d=l.getD n d:=rfl
end Go.Am
namespace Go.Am
set_option linter.unusedVariables false
theorem QE{σ:St}(K:Key)(n:Nat)(rD:Nat→AV)(objs':b8)(gb:σ.objs K=none)
  (az:∀t,rD t=σ.aA t∨σ.aA t= .d (.val (.slice none 0 0))∧rD t= .row K)
  (aD:∀k o,objs' k=some o→k=K∧o= .row n []∨k≠K∧(σ.objs k=some o∨∃xs i,σ.objs k=some (.box xs)∧xs[i]?=some (.d (.val (.slice none 0 0)))∧o= .box (xs.set i (.row K))))
  (mH:∀k,σ.objs k≠none→objs' k≠none) (aa5:objs' K=some (.row n [])) (aa6:∀k,dO (σ.objs k)→dO (objs' k)):fV σ ⟨rD,objs'⟩:=by
 intro m fr ρ a w h
 have b9:∀k,σ.used k→k≠K:=by rintro k ⟨o,ai⟩ rfl;rw [gb] at ai;cases ai
 have av:∀k,σ.used k→St.used ⟨rD,objs'⟩ k∧b0 ρ K (.slice none 0 0) k=ρ k:=fun k ai=>
  ⟨by
   cases bw:objs' k with
   |none=>exact absurd bw (mH k (by obtain ⟨o,e⟩:=ai;rw [e];simp))
   |some o=>exact ⟨o,bw⟩,cr _ _ (b9 k ai)⟩
 have aa7:St.used ⟨rD,objs'⟩ K:=⟨_,aa5⟩
 have yl:b0 ρ K (.slice none 0 0) K= .slice none 0 0:=by simp [b0]
 have nb:bI m (b0 ρ K (.slice none 0 0)) (St.used ⟨rD,objs'⟩) (.row K) (.slice none 0 0):=by
  have:=bI.row (m:=m) (ρ:=b0 ρ K (.slice none 0 0)) (U:=St.used ⟨rD,objs'⟩) K aa7
  rw [yl] at this
  exact this
 refine ⟨m,b0 ρ K (.slice none 0 0),Mem.le_refl m,⟨h.mem,h.frame,h.apart,?_,?_,?_,?_,?_⟩,?_⟩
 ·rintro k ⟨o,ai⟩
  rcases aD k o ai with⟨rfl,rfl⟩|⟨ad,ae⟩
  ·rw [yl];rfl
  ·rw [cr _ _ ad]
   rcases ae with ae|⟨xs,i,ae,_,_⟩
   ·exact h.one k ⟨_,ae⟩
   ·exact h.one k ⟨_,ae⟩
 ·intro t
  rcases az t with e|⟨aS,aV⟩
  ·show bI m _ _ (rD t) _
   rw [e]
   exact (h.aA t).mono (Mem.le_refl m) av
  ·show bI m _ _ (rD t) _
   rw [aV]
   have:=h.aA t
   rw [aS] at this
   rw [this.gz]
   exact nb
 ·intro k o ai
  rcases aD k o ai with⟨rfl,rfl⟩|⟨ad,ae⟩
  ·rw [yl];exact .inl ⟨rfl,rfl⟩
  ·rw [cr _ _ ad]
   rcases ae with ae|⟨xs,i,ae,ay,rfl⟩
   ·exact (h.objs k o ae).mono (Mem.le_refl m) av (fun _ _ _=>rfl)
   ·obtain ⟨b,vs,T,aS,aV,bz,cy⟩:=(h.objs k _ ae).mono (Mem.le_refl m) av (fun _ _ _=>rfl)
    refine ⟨b,vs,T,aS,aV,by simpa using bz,?_⟩
    intro j c x aj af
    rw [List.getElem?_set] at aj
    split at aj
    ·rename_i kK
     subst kK
     split at aj
     ·cases aj
      have:=cy i _ x ay af
      rw [this.gz]
      exact nb
     ·cases aj
    ·exact cy j c x aj af
 ·intro k o b ai aa8 ak
  rcases aD k o ai with⟨rfl,rfl⟩|⟨ad,ae⟩
  ·have e7:blockOf (b0 ρ k (.slice none 0 0) k)=some b:=ak
   rw [yl] at e7;cases e7
  ·have e7:blockOf (b0 ρ K (.slice none 0 0) k)=some b:=ak
   rw [cr _ _ ad] at e7
   rcases ae with ae|⟨xs,i,ae,_,rfl⟩
   ·exact h.own k o b ae aa8 e7
   ·exact h.own k _ b ae rfl e7
 ·intro k bf o o' b c3 ai eQ fM ll ak
  rcases aD k o ai with⟨rfl,rfl⟩|⟨ad,ae⟩
  ·have e7:blockOf (b0 ρ k (.slice none 0 0) k)=some b:=ak
   rw [yl] at e7;cases e7
  ·rw [cr _ _ ad] at ak
   rcases aD bf o' eQ with⟨rfl,rfl⟩|⟨dv,fU⟩
   ·rw [yl];intro bw;cases bw
   ·rw [cr _ _ dv]
    have hold:∃p,σ.objs k=some p∧p.owns=true:=by
     rcases ae with ae|⟨xs,i,ae,_,rfl⟩
     ·exact ⟨_,ae,fM⟩
     ·exact ⟨_,ae,rfl⟩
    have aa9:∃p,σ.objs bf=some p∧p.owns=true:=by
     rcases fU with fU|⟨xs,i,fU,_,rfl⟩
     ·exact ⟨_,fU,ll⟩
     ·exact ⟨_,fU,rfl⟩
    obtain ⟨p,bq,bk⟩:=hold
    obtain ⟨mA,aba,abb⟩:=aa9
    exact h.sep k bf p mA b c3 bq aba bk abb ak
 ·intro k ai ak
  refine ⟨aa6 k ak,cr _ _ ?_⟩
  obtain ⟨c,aj⟩:=x8 ak
  exact b9 k ⟨_,aj⟩
theorem abc{σ:St}(t:Nat)(K:Key)(n:Nat)(aG:σ.aA t= .d (.val (.slice none 0 0)))(gb:σ.objs K=none):fV σ ⟨b0 σ.aA t (.row K),b0 σ.objs K (some (.row n []))⟩:=by
 refine QE K n _ _ gb ?_ ?_ ?_ (by simp [b0]) ?_
 ·intro j
  by_cases h:j=t
  ·subst h;exact .inr ⟨aG,by simp [b0]⟩
  ·exact .inl (by simp [b0,h])
 ·intro k o ai
  by_cases h:k=K
  ·subst h;simp [b0] at ai;exact .inl ⟨rfl,ai.symm⟩
  ·rw [cr _ _ h] at ai;exact .inr ⟨h,.inl ai⟩
 ·intro k ai
  by_cases h:k=K
  ·subst h;simp [b0]
  ·rw [cr _ _ h];exact ai
 ·intro k ak
  have h:k≠K:=by rintro rfl;rw [gb] at ak;exact ru ak
  rw [cr _ _ h];exact ak
theorem abd{σ:St}(k:Key)(i:Nat)(K:Key)(n:Nat){xs:List AV}(ai:σ.objs k=some (.box xs))(ag:xs[i]?=some (.d (.val (.slice none 0 0))))(gb:σ.objs K=none):
  fV σ ⟨σ.aA,b0 (b0 σ.objs k (some (.box (xs.set i (.row K))))) K (some (.row n []))⟩:=by
 have asA:k≠K:=by rintro rfl;rw [gb] at ai;cases ai
 refine QE K n _ _ gb (fun _=> .inl rfl) ?_ ?_ (by simp [b0]) ?_
 ·intro j o aH
  by_cases h:j=K
  ·subst h;simp [b0] at aH;exact .inl ⟨rfl,aH.symm⟩
  ·rw [cr _ _ h] at aH
   by_cases ae:j=k
   ·subst ae
    simp [b0] at aH
    exact .inr ⟨h,.inr ⟨xs,i,ai,ag,aH.symm⟩⟩
   ·rw [cr _ _ ae] at aH;exact .inr ⟨h,.inl aH⟩
 ·intro j aH
  by_cases h:j=K
  ·subst h;simp [b0]
  ·rw [cr _ _ h]
   by_cases ae:j=k
   ·subst ae;simp [b0]
   ·rw [cr _ _ ae];exact aH
 ·intro j ak
  have h:j≠K:=by rintro rfl;rw [gb] at ak;exact ru ak
  rw [cr _ _ h]
  by_cases ae:j=k
  ·subst ae;rw [dU];exact rq
  ·rw [cr _ _ ae];exact ak
end Go.Am
namespace Go.Am
set_option linter.unusedVariables false
theorem abe{T:bX}{ev:Operand→AV}{objs:b8}{d:Key}{o:Op}{r:AV}{b3:List (Key×cn)}(h:effOp0 T ev objs d o=some (r,b3))(gT:∀t a x,o≠ .store t a x):∀j c,objs j=some (.box c)→updO objs b3 j=some (.box c):=by
 have FN:∀{objs:b8} {k:Key} {o:cn},(∀c,objs k≠some (.box c))→∀j c,objs j=some (.box c)→b0 objs k (some o) j=some (.box c):=by
  intro objs k o ai j c aH
  have:j≠k:=by rintro rfl;exact ai c aH
  rw [cr _ _ this];exact aH
 have new:∀{o:cn},objs d=none→∀j c,objs j=some (.box c)→updO objs [(d,o)] j=some (.box c):=by
  intro o ax
  exact FN (by intro c aj;rw [ax] at aj;cases aj)
 have same:∀{k:Key} {dc o:cn},objs k=some dc→(∀c,dc≠ .box c)→∀j c,objs j=some (.box c)→updO objs [(k,o)] j=some (.box c):=by
  intro k dc o ai b9
  exact FN (by intro c aj;rw [ai] at aj;cases aj;exact b9 c rfl)
 cases o<;>simp only [effOp0,reduceCtorEq] at h
 case alloc=>split at h<;>cases h;exact new (by assumption)
 case box=>split at h<;>cases h;exact new (by assumption)
 case buildSlice=>
  split at h
  case h_2=>cases h
  split at h
  case h_2=>cases h
  split at h
  case h_2=>cases h
  split at h<;>cases h
  exact new (by assumption)
 case makeSlice=>
  split at h
  case h_2=>cases h
  split at h
  case h_2=>cases h
  split at h
  case h_2=>cases h
  split at h<;>cases h
  exact new (by assumption)
 case makeMap=>split at h<;>cases h;exact new (by assumption)
 case store=>exact absurd rfl (gT _ _ _)
 case mapUpdate=>
  split at h
  case h_2=>cases h
  split at h
  case h_2=>cases h
  split at h
  case isFalse=>cases h
  split at h
  case h_2=>cases h
  split at h
  case h_2=>cases h
  split at h<;>cases h
  exact same (by assumption) (by intro c aj;cases aj)
 case insert=>
  split at h
  case h_2=>cases h
  split at h
  case h_2=>cases h
  split at h
  case isFalse=>cases h
  split at h
  case h_2=>cases h
  split at h
  case h_2=>cases h
  split at h<;>cases h
  exact same (by assumption) (by intro c aj;cases aj)
 case call=>
  split at h
  ·split at h
   case h_2=>cases h
   split at h
   case h_2=>cases h
   split at h
   case h_2=>cases h
   split at h
   case h_2=>cases h
   split at h
   case isFalse=>cases h
   split at h
   ·split at h<;>cases h
    exact new (by assumption)
   ·split at h
    case h_2=>cases h
    split at h<;>cases h
    rename_i ax _ _ _ _ _ _ _ _ _ _ _ _ ai _ _
    have gg:=same (o:= .dead) (by assumption) (by intro c aj;cases aj)
    intro j aL aH
    have ad:=gg j aL aH
    refine FN ?_ j aL ad
    intro c ak
    have b9:∀key x,objs key=some x→d≠key:=by
     rintro key x af rfl
     have aq:objs d=none:=by assumption
     rw [aq] at af;cases af
    rw [cr _ _ (b9 _ _ (by assumption))] at ak
    clear FN new same gg ad b9
    simp_all
   ·cases h
  ·split at h
   case h_2=>cases h
   split at h
   case h_2=>cases h
   split at h
   case h_2=>cases h
   split at h
   case h_2=>cases h
   split at h
   case isFalse=>cases h
   split at h
   ·split at h
    case h_2=>cases h
    split at h<;>cases h
    exact same (by assumption) (by intro c aj;cases aj)
   ·split at h
    case h_2=>cases h
    split at h<;>cases h
    exact same (by assumption) (by intro c aj;cases aj)
   ·cases h
  ·cases h
theorem abf{T:bX}{ev:Operand→AV}{objs:b8}{d:Key}{o:Op}{r:AV}{b3:List (Key×cn)}(h:fK T ev objs d o=some (r,b3))(gT:∀t a x,o≠ .store t a x):∀j c,objs j=some (.box c)→updO objs b3 j=some (.box c):=by
 obtain ⟨⟨g5,qg⟩,aq,ak⟩:=sP h
 have ad:=abe aq gT
 intro j c aH
 have ae:=ad j c aH
 rcases uM (T.born d) d g5 qg with e|⟨n,es,rfl,rfl,e⟩|⟨nX,n,es,rfl,rfl,e⟩|⟨off,cs,aF,rfl,rfl,eb,e⟩
 ·rw [ak] at e;cases e;exact ae
 ·rw [ak] at e;cases e
  by_cases ax:j=d
  ·subst ax;simp only [updO,dU] at ae;cases ae
  ·simp only [updO,cr _ _ ax] at ae⊢;exact ae
 ·rw [ak] at e;cases e
  by_cases ax:j=d
  ·subst ax;simp only [updO,dU] at ae;cases ae
  ·simp only [updO,cr _ _ ax] at ae⊢;exact ae
 ·rw [ak] at e;cases e
  have aI:objs d=none:=P5 aq
  by_cases ax:j=d
  ·subst ax;rw [aI] at aH;cases aH
  ·simp only [updO,cr _ _ ax];exact aH
section
variable{P:Program}{T:bX}{G:cT}{all:Array Oper}
theorem abg{y:Oper}{σ:St}{K K':St→Prop}(gT:∀t a x,y.op≠ .store t a x)(ai:∀objs r,(∀j c,σ.objs j=some (.box c)→objs j=some (.box c))→K (St.put ⟨σ.aA,objs⟩ y.dst r)→K' (St.put ⟨σ.aA,objs⟩ y.dst r))
  (h:vDo P T G y K σ):vDo P T G y K' σ:=by
 unfold vDo at*
 rw [sS] at*
 cases av:res T G σ y with
 |none=>simp only [av,Option.map_none] at h⊢;exact AL h fun r av=>ai σ.objs r (fun _ _ h=>h) av
 |some p=>
  simp only [av,Option.map_some] at h⊢
  refine ai _ _ ?_ h
  intro j c aH
  obtain ⟨r,b3⟩:=p
  unfold res at av
  split at av
  ·cases av;exact aH
  ·split at av
   ·cases av;exact aH
   ·exact abf av gT j c aH
theorem QF{t a k off:Nat}{σ:St}{x:Oper}(af:x.op= .load t (.tmp a))(az:σ.aA a= .ptr k off){K:St→Prop}(h:vDo P T G x K σ):
  ∃r,K (σ.put x.dst r)∧∀objs,(∀j c,σ.objs j=some (.box c)→objs j=some (.box c))→res T G ⟨σ.aA,objs⟩ x=some (r,[]):=by
 unfold vDo at h
 rw [sS] at h
 cases av:res T G σ x with
 |none=>
  simp only [av,Option.map_none] at h
  unfold vCall at h
  rw [af] at h
  exact h.elim
 |some p=>
  simp only [av,Option.map_some] at h
  obtain ⟨r,b3⟩:=p
  unfold res at av
  rw [af] at av
  simp only [pureOp,memOp,evA,az,fK,effOp0,Option.map_none] at av
  cases a2:T t with
  |none=>simp [a2] at av
  |some i=>
   simp only [a2] at av
   cases ai:σ.objs k with
   |none=>simp [ai] at av
   |some o=>
    cases o with
    |box cells=>
     simp only [ai] at av
     cases aX:sH i cells off with
     |none=>simp [aX] at av
     |some q=>
      simp only [aX,Option.some.injEq,Prod.mk.injEq] at av
      obtain ⟨rfl,rfl⟩:=av
      refine ⟨q,h,fun objs aD=>?_⟩
      unfold res
      rw [af]
      simp only [pureOp,memOp,evA,az,a2,aD k cells ai,aX]
    |dead=>simp [ai] at av
    |row=>simp [ai] at av
    |map=>simp [ai] at av
theorem QG{x y:Oper}{σ:St}{K:St→Prop}{t a k off:Nat}(af:x.op= .load t (.tmp a))(kL:x.guard=none)(az:σ.aA a= .ptr k off)(gT:∀t a x,y.op≠ .store t a x)(kI:x.apart all y=true)
  (h:vOp P T G all x (fun fi=>vOp P T G all y K fi) σ):vOp P T G all y (fun eV=>vOp P T G all x K eV) σ:=by
 obtain ⟨ah,aT,bP⟩:=Oper.apart_spec kI
 have mD:∀d,y.dst=some d→x.dst≠some d:=fun d ax af=>aT d af ax
 have jv:∀(K:St→Prop) σ,vOp P T G all x K σ=vDo P T G x K σ:=fun K σ=>by unfold vOp;simp only [kL]
 simp only [jv] at h⊢
 obtain ⟨r,ad,ae⟩:=QF af az h
 have AY:∀(K:St→Prop) objs,(∀j c,σ.objs j=some (.box c)→objs j=some (.box c))→vDo P T G x K ⟨σ.aA,objs⟩=K (St.put ⟨σ.aA,objs⟩ x.dst r):=fun K objs aD=>kk (ae objs aD)
 rw [vOp_eq,mB ah] at ad
 rw [vOp_eq]
 split at ad
 ·rename_i hw
  try simp only [hw]
  rw [hS ah aT] at ad
  refine abg gT (fun objs q aD ai=>?_) ad
  rw [hS bP mD,AY _ _ aD,put_comm aT]
  exact ai
 ·rename_i hw
  try simp only [hw]
  show vDo P T G x K (σ.put y.dst _)
  rw [hS bP mD]
  have:=AY (fun aR=>K (aR.put y.dst (.d (.val (.tuple #[]))))) σ.objs (fun _ _ h=>h)
  have e:vDo P T G x (fun aR=>K (aR.put y.dst (.d (.val (.tuple #[]))))) σ=K ((σ.put x.dst r).put y.dst (.d (.val (.tuple #[])))):=this
  rw [e]
  exact ad
 ·exact ad.elim
theorem abh{y:Oper}{σ:St}{K:St→Prop}{a:Nat}(ax:y.dst≠some a)(h:vOp P T G all y K σ):vOp P T G all y (fun aR=>aR.aA a=σ.aA a∧K aR) σ:=by
 have aX:∀(objs:b8) (r:AV),(St.put ⟨σ.aA,objs⟩ y.dst r).aA a=σ.aA a:=fun objs r=>by
  cases aN:y.dst with
  |none=>rfl
  |some d=>
   have:a≠d:=by rintro rfl;exact ax aN
   simp only [St.put,cr _ _ this]
 rw [vOp_eq] at h⊢
 split at h
 ·rename_i hw
  try simp only [hw]
  exact sW (fun objs r ai=>⟨aX objs r,ai⟩) h
 ·rename_i hw
  try simp only [hw]
  exact ⟨aX σ.objs _,h⟩
 ·exact h.elim
theorem abi{K:St→Prop}{i:Nat}{ef:Oper}{t a k off:Nat}(ag:all[i]?=some ef)(af:ef.op= .load t (.tmp a))(kL:ef.guard=none){B:List Nat}(gf:∀j cF,j∈B→all[j]?=some cF→∃e∈cF.after,Region.binds .any e=true∧(e.on=i∨e.on∈B)):∀(fuel:Nat) (listed:Array Bool) (σ:St),σ.aA a= .ptr k off→
  (∀j,j∈B→listed.getD j true=false)→
  (∀j cF,all[j]?=some cF→j≠i→listed.getD j true=false→j∉B→ef.apart all cF=true∧∀t a x,cF.op≠ .store t a x)→
  i∈Region.ready .any all listed→amOp P T G all i (hG P T G all K fuel (listed.setIfInBounds i true)) σ→hG P T G all K (fuel+1) listed σ:=by
 intro fuel
 induction fuel with
 |zero=>
  intro listed σ cz oS mE av H
  refine ⟨fun h=>(by rw [h] at av;cases av),fun j aH=>?_⟩
  by_cases hH:j=i
  ·subst hH;exact H
  ·have hm:=ready_mono aH hH
   exfalso
   have key:Region.ready .any all (listed.setIfInBounds i true)=[]:=by
    unfold amOp at H
    simp only [ag] at H
    unfold vOp at H
    simp only [kL] at H
    obtain ⟨r,ad,_⟩:=QF af cz H
    exact ad.1
   rw [key] at hm;cases hm
 |succ fuel ih=>
  intro listed σ cz oS mE av H
  refine ⟨fun h=>(by rw [h] at av;cases av),fun j aH=>?_⟩
  by_cases hH:j=i
  ·subst hH;exact H
  ·obtain ⟨sY,cF,hI,ft⟩:=mem_ready.1 aH
   have rn:∀k,listed.getD k true=false→listed[k]?.getD false=true→False:=fun k aq ad=>by
    rcases Nat.lt_or_ge k listed.size with bj|bj
    ·simp [bj] at aq ad;rw [aq] at ad;cases ad
    ·simp [Array.getElem?_eq_none bj] at ad
   have sZ:j∉B:=fun AS=>by
    obtain ⟨e,he,ak,kJ⟩:=gf j cF AS hI
    have ad:=ft e he ak
    rcases kJ with kJ|kJ
    ·rw [kJ] at ad
     exact rn i (mem_ready.1 av).1 (by simpa using ad)
    ·exact rn _ (oS _ kJ) (by simpa using ad)
   obtain ⟨eD,dM⟩:=mE j cF hI hH sY sZ
   have ad:amOp P T G all i (fun fi=>amOp P T G all j (hG P T G all K fuel ((listed.setIfInBounds i true).setIfInBounds j true)) fi) σ:=sX (fun fi rA=>rA.2 j (ready_mono aH hH)) H
   have Kh:cF.dst≠some a:=fun ax=>by
    obtain ⟨_,_,bP⟩:=Oper.apart_spec eD
    refine bP a ax ?_
    unfold Oper.looksAt
    rw [af]
    simp [Op.operands]
   have ae:amOp P T G all j (fun eV=>eV.aA a=σ.aA a∧amOp P T G all i (hG P T G all K fuel ((listed.setIfInBounds i true).setIfInBounds j true)) eV) σ:=by
    unfold amOp at ad⊢
    simp only [ag,hI] at ad⊢
    exact abh Kh (QG af kL cz dM eD ad)
   have AT:∀k ok,all[k]?=some ok→k≠i→(listed.setIfInBounds j true).getD k true=false→
     k∉B→ef.apart all ok=true∧∀t a x,ok.op≠ .store t a x:=fun k ok ai oT mF gT=>by
    refine mE k ok ai oT ?_ gT
    by_cases fh:j=k
    ·subst fh;exact sY
    ·rw [getD_set_ne true fh] at mF;exact mF
   refine sX (fun eV ay=>ih (listed.setIfInBounds j true) eV (ay.1.trans cz) (fun k ai=>by
    have fh:j≠k:=by rintro rfl;exact sZ ai
    rw [getD_set_ne true fh];exact oS k ai) AT (ready_mono av (Ne.symm hH)) ?_) ae
   rw [Array.setIfInBounds_comm _ _ hH]
   exact ay.2
end
end Go.Am
namespace Go.Am
set_option linter.unusedVariables false
section
variable{P:Program}{T:bX}{G:cT}{all:Array Oper}
def keyA:AV→Option Key
 | .ptr k _=>some k
 | .ff k _ _ _=>some k
 |_=>none
def keyOf(aA:Nat→AV):Operand→Option Key
 | .tmp a=>keyA (aA a)
 |_=>none
theorem Ki{aA:Nat→AV}(x:Operand):keyA (evA G aA x)=keyOf aA x:=by
 cases x with
 |tmp a=>rfl
 |const v=>rfl
 |func f=>rfl
 |global g=>
  simp only [evA,keyOf]
  split<;>rfl
def isD(aA:Nat→AV):Operand→Bool
 | .tmp a=>match aA a with
  | .d _=>true
  |_=>false
 | .const _=>true
 |_=>false
def isStoreK(aA:Nat→AV)(k:Key):Op→Bool
 | .store _ a _=>match keyOf aA a with
  |some bf=>bf !=k
  |none=>false
 |_=>false
def FO:Op→Bool
 | .store _ _ _=>true
 |_=>false
def isBx(aA:Nat→AV):Operand→Bool
 | .tmp a=>match aA a with
  | .ptr _ _=>true
  |_=>false
 |_=>false
def abj:AV→Bool
 | .d _=>true
 | .dL _ _=>true
 |_=>false
def n6(aA:Nat→AV):Operand→Bool
 | .tmp a=>abj (aA a)
 |_=>false
def dataOp(aA:Nat→AV):Op→Bool
 | .load _ a=>n6 aA a
 | .indexAddr _ x _=>n6 aA x
 | .lookup _ m _ _=>n6 aA m
 | .slice _ x _ _ none=>n6 aA x
 | .call ⟨.builtin .len,args,_⟩=>args.toList.all (n6 aA)
 |_=>false
def okPair(aA:Nat→AV)(x y:Oper):Bool:=pass x y||dataOp aA x.op||match x.op with
 | .binOp _ _ a b _=>isD aA a&&isD aA b
 | .load _ a=>match keyOf aA a with
  |some k=>(isBx aA a&&!FO y.op)||hh y.op||hF y.op||gd y.op||isStoreK aA k y.op
  |none=>false
 | .indexAddr _ _ _=>hh y.op||hF y.op||gd y.op||FO y.op
 | .store _ a _=>match keyOf aA a with
  |some k=>isStoreK aA k y.op
  |none=>false
 |_=>false
def Kj(k:Key)(o o':b8):Prop:=o' k=o k
def ym(o o':b8):Prop:=∀k n es,o k=some (.row n es)→∃g3,o' k=some (.row n g3)∧g3.length=es.length
theorem abk{y:Oper}{σ:St}{K K':St→Prop}{dV:b8→Prop}(aq:dV σ.objs)(gM:∀r b3,res T G σ y=some (r,b3)→dV (updO σ.objs b3))(ai:∀objs r,dV objs→K (St.put ⟨σ.aA,objs⟩ y.dst r)→K' (St.put ⟨σ.aA,objs⟩ y.dst r))
  (h:vDo P T G y K σ):vDo P T G y K' σ:=by
 unfold vDo at*
 rw [sS] at*
 cases av:res T G σ y with
 |none=>simp only [av,Option.map_none] at h⊢;exact AL h fun r av=>ai σ.objs r aq av
 |some p=>
  simp only [av,Option.map_some] at h⊢
  obtain ⟨r,b3⟩:=p
  exact ai _ _ (gM r b3 av) h
theorem QH{σ:St}{y:Oper}(h:(hh y.op||hF y.op||gd y.op)=true){r:AV}{b3:List (Key×cn)}(av:res T G σ y=some (r,b3)):b3=[]:=by
 unfold res at av
 split at av
 ·cases av;rfl
 ·split at av
  ·cases av;rfl
  ·simp only [Bool.or_eq_true] at h
   rcases h with(h|h)|h
   ·rw [(yb h).2] at av;cases av
   ·rw [yc h] at av;cases av
   ·rw [(J3 (T:=T) (ev:=evA G σ.aA) (objs:=σ.objs) (d:=y.dst.getD 9999) h).2.2] at av;cases av
theorem Kk{σ:St}{y:Oper}{t:TypeId}{a x:Operand}(aN:y.op= .store t a x){r:AV}{b3:List (Key×cn)}(av:res T G σ y=some (r,b3)):
  ∃k o o',keyOf σ.aA a=some k∧b3=[(k,o')]∧σ.objs k=some o∧((∃c hd,o= .box c∧o'= .box hd)∨∃n es g3,o= .row n es∧o'= .row n g3∧g3.length=es.length):=by
 rw [←Ki (G:=G)]
 unfold res at av
 rw [aN] at av
 simp only [pureOp,memOp,PV,effOp0] at av
 split at av
 case h_2=>cases av
 split at av
 case isFalse=>cases av
 split at av
 ·rename_i k off he
  split at av
  case h_2=>cases av
  rename_i cells aD
  split at av<;>cases av
  exact ⟨k,_,_,by rw [he];rfl,rfl,aD,.inl ⟨_,_,rfl,rfl⟩⟩
 ·rename_i k cx eh off he
  split at av
  case h_2=>cases av
  rename_i bf es aF aD ax
  split at av
  case isFalse=>cases av
  rename_i aj
  split at av<;>cases av
  exact ⟨k,_,_,by rw [he];rfl,rfl,aD,.inr ⟨cx,es,_,by rw [aj.1],rfl,by simp⟩⟩
 ·cases av
theorem AZ{objs:b8}{k:Key}{o:cn}(j:Key):updO objs [(k,o)] j=if j=k then some o else objs j:=by
 by_cases h:j=k
 ·subst h;simp [updO,dU]
 ·simp [updO,cr _ _ h,h]
theorem abl{σ:St}{y:Oper}{k:Key}(h:(hh y.op||hF y.op||gd y.op||isStoreK σ.aA k y.op)=true){r:AV}{b3:List (Key×cn)}(av:res T G σ y=some (r,b3)):Kj k σ.objs (updO σ.objs b3):=by
 rcases Bool.or_eq_true_iff.1 h with h|h
 ·rw [QH h av];rfl
 ·unfold isStoreK at h
  split at h
  case h_2=>cases h
  rename_i t a x aN
  obtain ⟨bf,o,o',ad,rfl,ae,_⟩:=Kk aN av
  rw [ad] at h
  simp only [bne_iff_ne,ne_eq] at h
  show updO σ.objs [(bf,o')] k=σ.objs k
  rw [AZ,if_neg (fun e=>h e.symm)]
theorem ym.refl(o:b8):ym o o:=fun k n es h=>⟨es,h,rfl⟩
theorem abm{σ:St}{y:Oper}(h:(hh y.op||hF y.op||gd y.op||FO y.op)=true){r:AV}{b3:List (Key×cn)}(av:res T G σ y=some (r,b3)):ym σ.objs (updO σ.objs b3):=by
 rcases Bool.or_eq_true_iff.1 h with h|h
 ·rw [QH h av];exact ym.refl _
 ·unfold FO at h
  split at h
  case h_2=>cases h
  rename_i t a x aN
  obtain ⟨bf,o,o',ad,rfl,ae,ay⟩:=Kk aN av
  intro k n es ai
  rw [AZ]
  by_cases e:k=bf
  ·subst e
   rw [if_pos rfl]
   rw [ae] at ai
   rcases ay with⟨c,hd,rfl,rfl⟩|⟨m,asB,abn,rfl,rfl,an⟩
   ·cases ai
   ·cases ai;exact ⟨abn,rfl,an⟩
  ·rw [if_neg e];exact ⟨es,ai,rfl⟩
def Looks(T:bX)(G:cT)(x:Oper)(aA:Nat→AV)(o:b8)(dV:b8→Prop):Prop:=∀r b3,res T G ⟨aA,o⟩ x=some (r,b3)→b3=[]∧∀o',dV o'→res T G ⟨aA,o'⟩ x=some (r,[])
theorem FP{x y:Oper}{σ:St}{K:St→Prop}{dV:b8→Prop}(kL:x.guard=none)(AN:gd x.op=false)(kI:x.apart all y=true)(an:Looks T G x σ.aA σ.objs dV)(aq:dV σ.objs)(gM:∀r b3,res T G σ y=some (r,b3)→dV (updO σ.objs b3))
  (h:vOp P T G all x (fun fi=>vOp P T G all y K fi) σ):vOp P T G all y (fun eV=>vOp P T G all x K eV) σ:=by
 obtain ⟨ah,aT,bP⟩:=Oper.apart_spec kI
 have mD:∀d,y.dst=some d→x.dst≠some d:=fun d ax af=>aT d af ax
 have jv:∀(K:St→Prop) σ,vOp P T G all x K σ=vDo P T G x K σ:=fun K σ=>by unfold vOp;simp only [kL]
 simp only [jv] at h⊢
 have Jz:res T G σ x≠none:=by
  intro aI
  rw [lM aI] at h
  have:=uQ h
  rw [AN] at this;cases this
 obtain ⟨p,aX⟩:=Option.ne_none_iff_exists'.1 Jz
 obtain ⟨r,b3⟩:=p
 obtain ⟨rfl,ae⟩:=an r b3 aX
 have ad:vOp P T G all y K (σ.put x.dst r):=by
  rw [kk aX] at h;exact h
 have AY:∀(K:St→Prop) objs,dV objs→vDo P T G x K ⟨σ.aA,objs⟩=K (St.put ⟨σ.aA,objs⟩ x.dst r):=fun K objs aD=>kk (ae objs aD)
 rw [vOp_eq,mB ah] at ad
 rw [vOp_eq]
 split at ad
 ·rename_i hw
  try simp only [hw]
  rw [hS ah aT] at ad
  refine abk aq gM (fun objs q aD ai=>?_) ad
  rw [hS bP mD,AY _ _ aD,put_comm aT]
  exact ai
 ·rename_i hw
  try simp only [hw]
  show vDo P T G x K (σ.put y.dst _)
  rw [hS bP mD]
  have e:vDo P T G x (fun aR=>K (aR.put y.dst (.d (.val (.tuple #[]))))) σ=K ((σ.put x.dst r).put y.dst (.d (.val (.tuple #[])))):=AY (fun aR=>K (aR.put y.dst (.d (.val (.tuple #[]))))) σ.objs aq
  rw [e]
  exact ad
 ·exact ad.elim
theorem QI{aA:Nat→AV}{x:Operand}(h:isD aA x=true):∃d,evA G aA x= .d d:=by
 unfold isD at h
 split at h
 ·split at h
  ·rename_i d ax;exact ⟨d,ax⟩
  ·cases h
 ·exact ⟨_,rfl⟩
 ·cases h
theorem abo(o o':b8)(x:D):someS o (.d x)=someS o' (.d x):=by
 unfold someS
 split<;>first|rfl|(rename_i h;cases h)|skip
 all_goals rfl
theorem A0{aA:Nat→AV}{x:Operand}(h:n6 aA x=true):(∃d,evA G aA x= .d d)∨∃cs off,evA G aA x= .dL cs off:=by
 cases x with
 |tmp a=>
  simp only [n6] at h
  show(∃d,aA a= .d d)∨∃cs off,aA a= .dL cs off
  generalize aA a=v at h
  cases v<;>first|exact .inl ⟨_,rfl⟩|exact .inr ⟨_,_,rfl⟩|cases h
 |_=>cases h
theorem QJ(o o':b8)(x:D):lenA o (.d x)=lenA o' (.d x):=by
 unfold lenA
 split<;>first|rfl|(rename_i h;cases h)|skip
 all_goals rfl
theorem abp(o o':b8)(cs:List D)(off:Nat):lenA o (.dL cs off)=lenA o' (.dL cs off):=rfl
theorem abq{aA:Nat→AV}{op:Op}(h:dataOp aA op=true)(o o':b8):memOp T (evA G aA) o op=memOp T (evA G aA) o' op:=by
 cases op<;>simp only [dataOp,Bool.false_eq_true] at h
 case load t a=>
  rcases A0 (G:=G) h with⟨d,e⟩|⟨cs,off,e⟩<;>simp only [memOp,e]
 case indexAddr t x i=>
  rcases A0 (G:=G) h with⟨d,e⟩|⟨cs,off,e⟩
  ·simp only [memOp,e]
   cases d<;>rfl
  ·simp only [memOp,e]
 case lookup t m k ok=>
  rcases A0 (G:=G) h with⟨d,e⟩|⟨cs,off,e⟩
  ·simp only [memOp,e]
   split
   ·cases d<;>first|rfl|skip
    rename_i v
    cases v<;>first|rfl|skip
    rename_i q
    cases q<;>rfl
   ·rfl
  ·simp only [memOp,e]
 case slice t x lo ag eU=>
  cases eU with
  |some _=>cases h
  |none=>
   simp only at h
   rcases A0 (G:=G) h with⟨d,e⟩|⟨cs,off,e⟩
   ·simp only [memOp,e,QJ o o' d]
    cases d<;>rfl
   ·simp only [memOp,e,abp o o' cs off]
 case call c=>
  obtain ⟨callee,args,dd⟩:=c
  cases callee with
  |value=>rfl
  |invoke=>rfl
  |builtin b=>
   cases b<;>first|rfl|skip
   simp only at h
   simp only [memOp]
   split
   ·rename_i t x aS aV
    rw [aV] at h
    simp only [List.all_cons,List.all_nil,Bool.and_true] at h
    rcases A0 (G:=G) h with⟨d,e⟩|⟨cs,off,e⟩
    ·simp only [e]
     cases a2:T t with
     |none=>rfl
     |some i=>
      obtain ⟨aF,s,b,z⟩:=i
      cases aF
      case map k q=>
       cases d
       case val v=>
        cases v
        case map r=>cases r<;>rfl
        all_goals rfl
       all_goals rfl
      case slice q=>simp only [QJ o o' d]
      case string=>
       cases d
       case val v=>cases v<;>rfl
       all_goals rfl
      all_goals rfl
    ·simp only [e]
     cases a2:T t with
     |none=>rfl
     |some i=>
      obtain ⟨aF,s,b,z⟩:=i
      cases aF<;>rfl
   ·rfl
theorem QK{aA:Nat→AV}{op:Op}(h:dataOp aA op=true):hF op=true:=by
 cases op<;>simp only [dataOp,Bool.false_eq_true] at h<;>first|rfl|skip
 case call c=>
  obtain ⟨callee,args,dd⟩:=c
  cases callee with
  |value=>cases h
  |invoke=>cases h
  |builtin b=>cases b<;>first|rfl|cases h
theorem abr{x:Oper}{aA:Nat→AV}{o:b8}(h:dataOp aA x.op=true):Looks T G x aA o (fun _=>True):=by
 intro r b3 av
 have hm:=QK h
 unfold res at av
 split at av
 ·rename_i u hu
  cases av
  refine ⟨rfl,fun o' _=>?_⟩
  unfold res
  simp only [hu]
 ·rename_i aX
  split at av
  ·rename_i u hu
   cases av
   refine ⟨rfl,fun o' _=>?_⟩
   unfold res
   simp only at hu
   simp only [aX,abq h o' o,hu]
  ·rw [yc hm] at av;cases av
theorem abt{x:Oper}{op:BinOp}{t:TypeId}{a b:Operand}{q:TypeId}(af:x.op= .binOp op t a b q){aA:Nat→AV}{o:b8}(aB:isD aA a=true)(ak:isD aA b=true):Looks T G x aA o (fun _=>True):=by
 intro r b3 av
 obtain ⟨d1,aS⟩:=QI (G:=G) aB
 obtain ⟨d2,aV⟩:=QI (G:=G) ak
 unfold res at av
 rw [af] at av
 cases aX:pureOp T (evA G aA) (.binOp op t a b q) with
 |some u=>
  rw [aX] at av
  cases av
  refine ⟨rfl,fun o' _=>?_⟩
  unfold res
  rw [af,aX]
 |none=>
  rw [aX] at av
  simp only at av
  have hm:∀o',memOp T (evA G aA) o' (.binOp op t a b q)=memOp T (evA G aA) o (.binOp op t a b q):=by
   intro o'
   simp only [memOp,aS,aV,abo o' o]
  cases fZ:memOp T (evA G aA) o (.binOp op t a b q) with
  |some u=>
   rw [fZ] at av
   cases av
   refine ⟨rfl,fun o' _=>?_⟩
   unfold res
   rw [af,aX]
   simp only [hm o',fZ]
  |none=>rw [fZ] at av;simp [fK,effOp0] at av
theorem abu{x:Oper}{t:TypeId}{a:Operand}{k:Key}(af:x.op= .load t a){aA:Nat→AV}{o:b8}(aB:keyOf aA a=some k):Looks T G x aA o (Kj k o):=by
 intro r b3 av
 have he:keyA (evA G aA a)=some k:=by rw [Ki];exact aB
 unfold res at av
 rw [af] at av
 simp only [pureOp] at av
 have hm:∀o',o' k=o k→memOp T (evA G aA) o' (.load t a)=memOp T (evA G aA) o (.load t a):=by
  intro o' aD
  simp only [memOp]
  generalize evA G aA a=v at he⊢
  cases v<;>simp only [keyA,reduceCtorEq,Option.some.injEq] at he
  ·subst he;simp only [aD]
  ·subst he;simp only [aD]
 cases fZ:memOp T (evA G aA) o (.load t a) with
 |some u=>
  rw [fZ] at av
  cases av
  refine ⟨rfl,fun o' aD=>?_⟩
  unfold res
  rw [af]
  simp only [pureOp,hm o' aD,fZ]
 |none=>rw [fZ] at av;simp [fK,effOp0] at av
theorem abv{x:Oper}{t:TypeId}{a b:Operand}(af:x.op= .indexAddr t a b){aA:Nat→AV}{o:b8}:Looks T G x aA o (ym o):=by
 intro r b3 av
 unfold res at av
 rw [af] at av
 simp only [pureOp] at av
 cases fZ:memOp T (evA G aA) o (.indexAddr t a b) with
 |some u=>
  rw [fZ] at av
  cases av
  refine ⟨rfl,fun o' aD=>?_⟩
  have hm:memOp T (evA G aA) o' (.indexAddr t a b)=some r:=by
   simp only [memOp] at fZ⊢
   split at fZ
   ·split at fZ
    ·split at fZ
     ·rename_i aI
      rw [if_pos aI]
      split at fZ<;>first|exact fZ|skip
      rename_i key aM
      cases ai:o key with
      |none=>rw [ai] at fZ;cases fZ
      |some gA=>
       cases gA with
       |row k es=>
        obtain ⟨g3,ad,ae⟩:=aD key k es ai
        rw [ai] at fZ
        rw [ad]
        simp only [ae] at fZ⊢
        exact fZ
       |dead=>rw [ai] at fZ;cases fZ
       |box=>rw [ai] at fZ;cases fZ
       |map=>rw [ai] at fZ;cases fZ
     ·cases fZ
    ·cases fZ
   ·exact fZ
   ·cases fZ
  unfold res
  rw [af]
  simp only [pureOp,hm]
 |none=>rw [fZ] at av;simp [fK,effOp0] at av
theorem abw{o:b8}{k bf:Key}{a b:cn}(h:k≠bf):updO (updO o [(k,a)]) [(bf,b)]=updO (updO o [(bf,b)]) [(k,a)]:=by
 funext j
 simp only [AZ]
 by_cases ad:j=k<;>by_cases ae:j=bf<;>simp_all
theorem QL{y:Oper}{t:TypeId}{a x:Operand}{k:Key}(aN:y.op= .store t a x){aA:Nat→AV}{o o':b8}(aB:keyOf aA a=some k)(aD:o' k=o k):res T G ⟨aA,o'⟩ y=res T G ⟨aA,o⟩ y:=by
 have he:keyA (evA G aA a)=some k:=by rw [Ki];exact aB
 unfold res
 rw [aN]
 simp only [pureOp,memOp,PV,effOp0]
 generalize evA G aA a=v at he⊢
 cases v<;>simp only [keyA,reduceCtorEq,Option.some.injEq] at he
 ·subst he;simp only [aD]
 ·subst he;simp only [aD]
theorem abx{x y:Oper}{σ:St}{K:St→Prop}{t t':TypeId}{a ct v iG:Operand}{k bf:Key}(af:x.op= .store t a v)(aN:y.op= .store t' ct iG)(aB:keyOf σ.aA a=some k)(A1:keyOf σ.aA ct=some bf)(b9:bf≠k)
  (kL:x.guard=none) (kI:x.apart all y=true) (h:vOp P T G all x (fun fi=>vOp P T G all y K fi) σ):vOp P T G all y (fun eV=>vOp P T G all x K eV) σ:=by
 obtain ⟨ah,aT,bP⟩:=Oper.apart_spec kI
 have mD:∀d,y.dst=some d→x.dst≠some d:=fun d ax af=>aT d af ax
 have jv:∀(K:St→Prop) σ,vOp P T G all x K σ=vDo P T G x K σ:=fun K σ=>by unfold vOp;simp only [kL]
 simp only [jv] at h⊢
 have QM:∀{z:Oper} {tt:TypeId} {p q:Operand} {τ:St} {K':St→Prop},z.op= .store tt p q→vDo P T G z K' τ→∃r cc fM,res T G τ z=some (r,[(cc,fM)])∧keyOf τ.aA p=some cc∧K' (τ.step z.dst r [(cc,fM)]):=by
  intro z tt p q τ K' bM bw
  cases av:res T G τ z with
  |none=>
   rw [lM av] at bw
   have:=uQ bw
   rw [bM] at this;cases this
  |some u=>
   obtain ⟨r,b3⟩:=u
   obtain ⟨cc,o,fM,bq,rfl,_,_⟩:=Kk bM av
   exact ⟨r,cc,fM,rfl,bq,by rw [kk av] at bw;exact bw⟩
 obtain ⟨r,cc,fM,bq,bk,bT⟩:=QM af h
 rw [aB] at bk;cases bk
 have u0:vOp P T G all y K (St.put ⟨σ.aA,updO σ.objs [(k,fM)]⟩ x.dst r):=bT
 have QN:∀(ll:b8),ll k=σ.objs k→∀K':St→Prop,vDo P T G x K' ⟨σ.aA,ll⟩=K' (St.put ⟨σ.aA,updO ll [(k,fM)]⟩ x.dst r):=by
  intro ll aD K'
  have:res T G ⟨σ.aA,ll⟩ x=some (r,[(k,fM)]):=by rw [QL af aB aD];exact bq
  exact kk this
 rw [vOp_eq,mB ah] at u0
 rw [vOp_eq]
 have aby:wantA all ⟨σ.aA,updO σ.objs [(k,fM)]⟩ y=wantA all σ y:=rfl
 rw [aby] at u0
 split at u0
 ·rename_i hw
  try simp only [hw]
  rw [hS ah aT] at u0
  obtain ⟨e6,c6,ll,eD,dM,gH⟩:=QM aN u0
  have QO:keyOf σ.aA ct=some c6:=dM
  rw [A1] at QO;cases QO
  have abz:res T G σ y=some (e6,[(bf,ll)]):=by
   rw [←eD]
   exact (QL (T:=T) (G:=G) aN (o:=σ.objs) (o':=updO σ.objs [(k,fM)]) A1 (by rw [AZ,if_neg b9])).symm
  rw [kk abz]
  show vDo P T G x K (St.put ⟨σ.aA,updO σ.objs [(bf,ll)]⟩ y.dst e6)
  rw [hS bP mD,QN _ (by rw [AZ,if_neg (fun e=>b9 e.symm)]),put_comm aT,abw b9]
  exact gH
 ·rename_i hw
  try simp only [hw]
  show vDo P T G x K (σ.put y.dst _)
  rw [hS bP mD]
  have e:=QN σ.objs rfl (fun aR=>K (aR.put y.dst (.d (.val (.tuple #[])))))
  have cW:vDo P T G x (fun aR=>K (aR.put y.dst (.d (.val (.tuple #[]))))) σ=_:=e
  rw [cW]
  exact u0
 ·exact u0.elim
theorem abA{x y:Oper}{σ:St}{K:St→Prop}(kL:x.guard=none)(kI:x.apart all y=true)(h:okPair σ.aA x y=true)(H:vOp P T G all x (fun fi=>vOp P T G all y K fi) σ):
  vOp P T G all y (fun eV=>vOp P T G all x K eV) σ:=by
 unfold okPair at h
 rcases Bool.or_eq_true_iff.1 h with h|h
 ·rcases Bool.or_eq_true_iff.1 h with h|h
  ·exact swap kI h H
  ·refine FP kL ?_ kI (abr h) trivial (fun _ _ _=>trivial) H
   cases aj:gd x.op with
   |false=>rfl
   |true=>have:=AK aj;rw [QK h] at this;cases this.2.1
 split at h
 ·rename_i op t a b q af
  rw [Bool.and_eq_true] at h
  exact FP kL (by rw [af];rfl) kI (abt af h.1 h.2) trivial (fun _ _ _=>trivial) H
 ·rename_i t a af
  split at h
  case h_2=>cases h
  rename_i k ai
  simp only [Bool.or_eq_true] at h
  have other:(hh y.op||hF y.op||gd y.op||isStoreK σ.aA k y.op)=true→vOp P T G all y (fun eV=>vOp P T G all x K eV) σ:=fun bj=>
   FP kL (by rw [af];rfl) kI (abu af ai) (rfl:Kj k σ.objs σ.objs) (fun _ _ av=>abl bj av) H
  rcases h with(((h|h)|h)|h)|h
  ·rw [Bool.and_eq_true] at h
   obtain ⟨ad,ae⟩:=h
   unfold isBx at ad
   split at ad
   case h_2=>cases ad
   rename_i ab
   split at ad
   case h_2=>cases ad
   rename_i yn off az
   refine QG af kL az ?_ kI H
   intro t' ct iG he
   rw [he] at ae
   cases ae
  ·exact other (by simp [h])
  ·exact other (by simp [h])
  ·exact other (by simp [h])
  ·exact other (by simp [h])
 ·rename_i t a b af
  exact FP kL (by rw [af];rfl) kI (abv af) (ym.refl _) (fun _ _ av=>abm h av) H
 ·rename_i t a v af
  split at h
  case h_2=>cases h
  rename_i k ai
  unfold isStoreK at h
  split at h
  case h_2=>cases h
  rename_i t' ct iG aN
  split at h
  case h_2=>cases h
  rename_i bf eQ
  exact abx af aN ai eQ (by simpa using h) kL kI H
 ·cases h
def xT:Op→List Tmp
 | .binOp _ _ a b _=>(match a with| .tmp t=>[t]|_=>[])++(match b with| .tmp t=>[t]|_=>[])
 | .load _ (.tmp a)=>[a]
 | .store _ (.tmp a) _=>[a]
 | .indexAddr _ (.tmp a) _=>[a]
 | .lookup _ (.tmp a) _ _=>[a]
 | .slice _ (.tmp a) _ _ _=>[a]
 | .call ⟨.builtin .len,args,_⟩=>args.toList.filterMap fun x=>match x with| .tmp t=>some t|_=>none
 |_=>[]
def addrT:Op→List Tmp
 | .store _ (.tmp a) _=>[a]
 |_=>[]
theorem Kl{s s':Nat→AV}{x:Operand}(h:∀t,x= .tmp t→s t=s' t):keyOf s x=keyOf s' x:=by
 cases x with
 |tmp t=>simp only [keyOf,h t rfl]
 |_=>rfl
theorem QP{s s':Nat→AV}{x:Operand}(h:∀t,x= .tmp t→s t=s' t):isD s x=isD s' x:=by
 cases x with
 |tmp t=>simp only [isD,h t rfl]
 |_=>rfl
theorem abB{s s':Nat→AV}{x:Operand}(h:∀t,x= .tmp t→s t=s' t):isBx s x=isBx s' x:=by
 cases x with
 |tmp t=>simp only [isBx,h t rfl]
 |_=>rfl
theorem abC{s s':Nat→AV}{x y:Oper}(h:∀t,t∈xT x.op∨t∈addrT y.op→s t=s' t):okPair s x y=okPair s' x y:=by
 have aN:∀k,isStoreK s k y.op=isStoreK s' k y.op:=by
  intro k
  unfold isStoreK
  split
  ·rename_i t a v he
   rw [Kl (s:=s) (s':=s') (x:=a) (fun q bK=>h q (.inr (by rw [he,bK];simp [addrT])))]
  ·rfl
 have ax:dataOp s x.op=dataOp s' x.op:=by
  have af:∀t,t∈xT x.op→s t=s' t:=fun t aG=>h t (.inl aG)
  generalize x.op=op at af
  have one:∀a:Operand,(∀t,a= .tmp t→t∈xT op)→n6 s a=n6 s' a:=by
   intro a aB
   cases a with
   |tmp t=>simp only [n6,af t (aB t rfl)]
   |_=>rfl
  cases op<;>simp only [dataOp]
  case load t a=>exact one a (by rintro t rfl;simp [xT])
  case indexAddr t a i=>exact one a (by rintro t rfl;simp [xT])
  case lookup t a k ok=>exact one a (by rintro t rfl;simp [xT])
  case slice t a lo ag eU=>
   cases eU with
   |none=>exact one a (by rintro t rfl;simp [xT])
   |some _=>rfl
  case call c=>
   obtain ⟨callee,args,dd⟩:=c
   cases callee with
   |value=>rfl
   |invoke=>rfl
   |builtin b=>
    cases b<;>first|rfl|skip
    simp only
    rw [Bool.eq_iff_iff,List.all_eq_true,List.all_eq_true]
    have aB:∀a∈args.toList,n6 s a=n6 s' a:=fun a aB=>one a (by rintro t rfl;simp only [xT,List.mem_filterMap];exact ⟨_,aB,rfl⟩)
    exact ⟨fun h a hm=>by rw [←aB a hm];exact h a hm,fun h a hm=>by rw [aB a hm];exact h a hm⟩
 unfold okPair
 rw [ax]
 congr 1
 split
 ·rename_i op t a b q af
  have aB:∀t,a= .tmp t→s t=s' t:=fun t aG=>h t (.inl (by rw [af,aG];simp [xT]))
  have ak:∀t,b= .tmp t→s t=s' t:=fun t aG=>h t (.inl (by rw [af,aG];simp [xT]))
  rw [QP aB,QP ak]
 ·rename_i t a af
  have aB:∀t,a= .tmp t→s t=s' t:=fun t aG=>h t (.inl (by rw [af,aG];simp [xT]))
  rw [Kl aB,abB aB]
  split
  ·rw [aN]
  ·rfl
 ·rfl
 ·rename_i t a v af
  have aB:∀t,a= .tmp t→s t=s' t:=fun t aG=>h t (.inl (by rw [af,aG];simp [xT]))
  rw [Kl aB]
  split
  ·rw [aN]
  ·rfl
 ·rfl
theorem abD{y:Oper}{σ:St}{K:St→Prop}{L:List Tmp}(ax:∀a∈L,y.dst≠some a)(h:vOp P T G all y K σ):vOp P T G all y (fun aR=>(∀a∈L,aR.aA a=σ.aA a)∧K aR) σ:=by
 have aX:∀(objs:b8) (r:AV),∀a∈L,(St.put ⟨σ.aA,objs⟩ y.dst r).aA a=σ.aA a:=fun objs r a aB=>by
  cases aN:y.dst with
  |none=>rfl
  |some d=>
   have:a≠d:=by rintro rfl;exact ax a aB aN
   simp only [St.put,cr _ _ this]
 rw [vOp_eq] at h⊢
 split at h
 ·rename_i hw
  try simp only [hw]
  exact sW (fun objs r ai=>⟨aX objs r,ai⟩) h
 ·rename_i hw
  try simp only [hw]
  exact ⟨aX σ.objs _,h⟩
 ·exact h.elim
theorem abE{x:Oper}{σ:St}{p:Prop}(h:vOp P T G all x (fun _=>p) σ):p:=by
 rw [vOp_eq] at h
 split at h
 ·unfold vDo at h
  split at h
  ·exact h
  ·unfold vCall at h
   split at h
   ·split at h
    ·obtain ⟨_,_,_,_,_,_,⟨r,lN⟩,_,q⟩:=h
     exact q r (by rw [lN])
    ·exact h.elim
   ·exact h.elim
 ·exact h
 ·exact h.elim
theorem abF{K:St→Prop}{i:Nat}{ef:Oper}(ag:all[i]?=some ef)(kL:ef.guard=none){B:List Nat}(gf:∀j cF,j∈B→all[j]?=some cF→∃e∈cF.after,Region.binds .any e=true∧(e.on=i∨e.on∈B)){s0:Nat→AV}{L:List Tmp}(abG:∀t∈xT ef.op,t∈L):
  ∀(fuel:Nat) (listed:Array Bool) (σ:St),(∀t∈L,σ.aA t=s0 t)→
  (∀j,j∈B→listed.getD j true=false)→
  (∀j cF,all[j]?=some cF→j≠i→listed.getD j true=false→j∉B→ef.apart all cF=true∧okPair s0 ef cF=true∧(∀t∈L,cF.dst≠some t)∧∀t∈addrT cF.op,t∈L)→
  i∈Region.ready .any all listed→amOp P T G all i (hG P T G all K fuel (listed.setIfInBounds i true)) σ→hG P T G all K (fuel+1) listed σ:=by
 intro fuel
 induction fuel with
 |zero=>
  intro listed σ cz oS mE av H
  refine ⟨fun h=>(by rw [h] at av;cases av),fun j aH=>?_⟩
  by_cases hH:j=i
  ·subst hH;exact H
  ·have hm:=ready_mono aH hH
   exfalso
   have key:Region.ready .any all (listed.setIfInBounds i true)=[]:=by
    have Km:=sX (K':=fun _=>Region.ready .any all (listed.setIfInBounds i true)=[]) (fun aR bj=>bj.1) H
    unfold amOp at Km
    simp only [ag] at Km
    exact abE Km
   rw [key] at hm;cases hm
 |succ fuel ih=>
  intro listed σ cz oS mE av H
  refine ⟨fun h=>(by rw [h] at av;cases av),fun j aH=>?_⟩
  by_cases hH:j=i
  ·subst hH;exact H
  ·obtain ⟨sY,cF,hI,ft⟩:=mem_ready.1 aH
   have rn:∀k,listed.getD k true=false→listed[k]?.getD false=true→False:=fun k aq ad=>by
    rcases Nat.lt_or_ge k listed.size with bj|bj
    ·simp [bj] at aq ad;rw [aq] at ad;cases ad
    ·simp [Array.getElem?_eq_none bj] at ad
   have sZ:j∉B:=fun AS=>by
    obtain ⟨e,he,ak,kJ⟩:=gf j cF AS hI
    have ad:=ft e he ak
    rcases kJ with kJ|kJ
    ·rw [kJ] at ad
     exact rn i (mem_ready.1 av).1 (by simpa using ad)
    ·exact rn _ (oS _ kJ) (by simpa using ad)
   obtain ⟨eD,dM,gH,oV⟩:=mE j cF hI hH sY sZ
   have ad:amOp P T G all i (fun fi=>amOp P T G all j (hG P T G all K fuel ((listed.setIfInBounds i true).setIfInBounds j true)) fi) σ:=sX (fun fi rA=>rA.2 j (ready_mono aH hH)) H
   have ae:amOp P T G all j (fun eV=>(∀a∈L,eV.aA a=σ.aA a)∧amOp P T G all i (hG P T G all K fuel ((listed.setIfInBounds i true).setIfInBounds j true)) eV) σ:=by
    unfold amOp at ad⊢
    simp only [ag,hI] at ad⊢
    have ba:okPair σ.aA ef cF=true:=by
     rw [←dM]
     refine abC fun t aG=>cz t ?_
     rcases aG with aG|aG
     ·exact abG t aG
     ·exact oV t aG
    exact abD gH (abA kL eD ba ad)
   have AT:∀k ok,all[k]?=some ok→k≠i→(listed.setIfInBounds j true).getD k true=false→
     k∉B→ef.apart all ok=true∧okPair s0 ef ok=true∧(∀t∈L,ok.dst≠some t)∧∀t∈addrT ok.op,t∈L:=fun k ok ai oT mF gT=>by
    refine mE k ok ai oT ?_ gT
    by_cases fh:j=k
    ·subst fh;exact sY
    ·rw [getD_set_ne true fh] at mF;exact mF
   refine sX (fun eV ay=>ih (listed.setIfInBounds j true) eV (fun t aG=>(ay.1 t aG).trans (cz t aG)) (fun k ai=>by
    have fh:j≠k:=by rintro rfl;exact sZ ai
    rw [getD_set_ne true fh];exact oS k ai) AT (ready_mono av (Ne.symm hH)) ?_) ae
   rw [Array.setIfInBounds_comm _ _ hH]
   exact ay.2
end
end Go.Am
namespace Go.Am
structure V where
 name:ByteArray
 bool:Bool
 lo:Int
 ag:Int
def V.cells(v:V):List D:=[aJ v.name,ar v.bool,J v.lo,J v.ag]
def V.d(v:V):D:= .agg v.cells
def a6(l:List V):D:= .aC 4 (l.map V.cells)
def nh(n:Int):D:= .val (.int .u8 n)
def ln(n:Int):Prop:=-9223372036854775808≤n∧n≤9223372036854775807
def V.ok(v:V):Prop:=ln v.lo∧ln v.ag∧v.name.size≤9223372036854775807
def V.span(v:V):Int:=if v.bool then 2 else if v.lo>v.ag then 0 else if v.ag-v.lo<1073741824 then v.ag-v.lo+1 else 1073741825
def bitsOf(n:Int):Nat:=if n≤1 then 0 else Nat.log2 (n-1).toNat+1
theorem abH{n:Int}{k:Nat}(ad:∀j:Nat,j<k→(2:Int)^j<n)(ae:n≤2^k):bitsOf n=k:=by
 unfold bitsOf
 cases k with
 |zero=>simp at ae;simp [ae]
 |succ k=>
  have ay:=ad k (by omega)
  have aX:(0:Int)<2^k:=Int.pow_pos (by omega)
  rw [if_neg (by omega)]
  have e:Nat.log2 (n-1).toNat=k:=by
   have aB:(2:Nat)^k≤(n-1).toNat:=by
    have:((2^k:Nat):Int)=2^k:=by simp
    omega
   have ak:(n-1).toNat<2^(k+1):=by
    have:((2^(k+1):Nat):Int)=2^(k+1):=by simp
    omega
   exact (Nat.log2_eq_iff (by have:=Nat.two_pow_pos k;omega)).2 ⟨aB,ak⟩
  omega
theorem QQ{n:Int}(h:1<n):bitsOf n=bitsOf (n/2+n%2)+1:=by
 unfold bitsOf
 rw [if_neg (by omega)]
 by_cases ae:n=2
 ·subst ae;decide
 ·rw [if_neg (by omega)]
  have e:(n/2+n%2-1).toNat=(n-1).toNat/2:=by omega
  rw [e]
  have ay:(n-1).toNat≠0:=by omega
  have aZ:(n-1).toNat/2≠0:=by omega
  obtain ⟨a,b⟩:=(Nat.log2_eq_iff aZ).1 rfl
  have:Nat.log2 (n-1).toNat=Nat.log2 ((n-1).toNat/2)+1:=by
   refine (Nat.log2_eq_iff ay).2 ⟨?_,?_⟩
   ·rw [Nat.pow_succ];omega
   ·rw [Nat.pow_succ];omega
  omega
def qm(c:Int):Bool:=(decide (c≥97)&&decide (c≤122))||(decide (c≥65)&&decide (c≤90))
def u1(c:Int):Bool:=decide (c≥48)&&decide (c≤57)
def kM(c:Int):Bool:=qm c||u1 c||(c==95)
theorem QR{lo ag:Int}(ad:ln lo)(ae:ln ag)(h:lo≤ag):IntKind.u64.wrap (IntKind.u64.wrap ag-IntKind.u64.wrap lo)=ag-lo:=by
 unfold ln at ad ae
 simp only [IntKind.wrap_u64]
 omega
theorem V.QS{v:V}(h:v.bool=true):v.span=2:=by simp [V.span,h]
theorem V.QT{v:V}(h:v.bool=false)(ad:v.lo>v.ag):v.span=0:=by simp [V.span,h,ad]
theorem V.Kn{v:V}(h:v.bool=false)(ad:v.lo≤v.ag)(ae:v.ag-v.lo<1073741824):v.span=v.ag-v.lo+1:=by simp [V.span,h,ae];omega
theorem V.Ko{v:V}(h:v.bool=false)(ad:v.lo≤v.ag)(ae:1073741824≤v.ag-v.lo):v.span=1073741825:=by simp [V.span,h,ae];omega
def has(x:ByteArray)(l:List ByteArray):Bool:=l.any fun y=>decide (y=x)
def idxOf(x:ByteArray)(l:List ByteArray):Int:=match l.findIdx? (fun y=>decide (y=x)) with
 |some i=>(i:Nat)
 |none=>-1
theorem QU{x:ByteArray}{l:List ByteArray}(h:∀j:Nat,j<l.length→l[j]?≠some x):idxOf x l=-1:=by
 unfold idxOf
 have:l.findIdx? (fun y=>decide (y=x))=none:=by
  rw [List.findIdx?_eq_none_iff]
  intro y aN
  obtain ⟨j,aH⟩:=List.mem_iff_getElem?.1 aN
  have ad:=h j (List.getElem?_eq_some_iff.1 aH).1
  rw [aH] at ad
  simpa using ad
 rw [this]
theorem QV{x:ByteArray}{l:List ByteArray}{i:Nat}(h:∀j:Nat,j<i→l[j]?≠some x)(ag:l[i]?=some x):idxOf x l=i:=by
 unfold idxOf
 obtain ⟨bL,ch⟩:=List.getElem?_eq_some_iff.1 ag
 have:l.findIdx? (fun y=>decide (y=x))=some i:=by
  rw [List.findIdx?_eq_some_iff_getElem]
  refine ⟨bL,by simpa using ch,fun j aH=>?_⟩
  have ad:=h j aH
  rw [List.getElem?_eq_getElem (by omega)] at ad
  simpa using ad
 rw [this]
theorem QW(x:ByteArray)(l:List ByteArray):decide (idxOf x l≥0)=has x l:=by
 unfold idxOf has
 cases h:l.findIdx? (fun y=>decide (y=x)) with
 |none=>
  rw [List.findIdx?_eq_none_iff] at h
  have:l.any (fun y=>decide (y=x))=false:=by rw [List.any_eq_false];intro y aN;simpa using h y aN
  rw [this];rfl
 |some i=>
  obtain ⟨ad,ae,_⟩:=List.findIdx?_eq_some_iff_getElem.1 h
  have:l.any (fun y=>decide (y=x))=true:=List.any_eq_true.2 ⟨_,List.getElem_mem ad,ae⟩
  rw [this]
  simp
theorem QX{x:ByteArray}{l:List ByteArray}{i:Nat}(h:l[i]?=some x):has x l=true:=
 List.any_eq_true.2 ⟨x,List.mem_of_getElem? h,by simp⟩
theorem QY{x:ByteArray}{l:List ByteArray}(h:∀j:Nat,j<l.length→l[j]?≠some x):has x l=false:=by
 unfold has
 rw [List.any_eq_false]
 intro y aN
 obtain ⟨j,aH⟩:=List.mem_iff_getElem?.1 aN
 have ad:=h j (List.getElem?_eq_some_iff.1 aH).1
 rw [aH] at ad
 simpa using ad
def mI(p:Int→Bool)(s:ByteArray)(i:Nat):Bool:=match s[i]? with
 |some b=>p b.toNat
 |none=>false
def lP(p:Int→Bool)(s:ByteArray):Nat:=((List.range (s.size+1)).find? fun i=>!mI p s i).getD 0
theorem FQ{s:ByteArray}{i:Nat}:s[i]?=if h:i<s.size then some s[i] else none:=rfl
theorem abI{p:Int→Bool}{s:ByteArray}{i:Nat}(h:mI p s i=true):i<s.size:=by
 unfold mI at h
 rw [FQ] at h
 by_cases ad:i<s.size
 ·exact ad
 ·rw [dif_neg ad] at h;cases h
def words:List ByteArray:=[⟨#[65]⟩,⟨#[65,70]⟩,⟨#[65,71]⟩,⟨#[65,88]⟩,⟨#[69]⟩,⟨#[69,70]⟩,⟨#[69,71]⟩,⟨#[69,88]⟩,⟨#[85]⟩,⟨#[98,111,111,108]⟩,⟨#[100,101,102]⟩,⟨#[101,108,115,101]⟩,⟨#[102,97,105,114]⟩,⟨#[102,97,108,115,101]⟩,⟨#[105,102]⟩,⟨#[105,110,105,116]⟩,⟨#[105,110,118,97,114]⟩,⟨#[109,111,100]⟩,⟨#[110,101,120,116]⟩,⟨#[115,112,101,99]⟩,⟨#[116,104,101,110]⟩,⟨#[116,114,97,110,115]⟩,⟨#[116,114,117,101]⟩,⟨#[118,97,114]⟩]
def isName(s:ByteArray):Bool:=decide ((s.size:Int)≥1)&&decide ((s.size:Int)≤24)&&mI qm s 0&&((lP kM s:Int)==(s.size:Int))&&!has s words
theorem QZ(s:ByteArray):(decide (s=⟨#[]⟩)=true∧decide ((s.size:Int)≥1)=false)∨∃b,decide (s=⟨#[]⟩)=false∧decide ((s.size:Int)≥1)=true∧s[0]?=some b:=by
 by_cases h:0<s.size
 ·refine .inr ⟨s[0],?_,?_,?_⟩
  ·have:s≠⟨#[]⟩:=by rintro rfl;exact absurd h (by decide)
   simpa using this
  ·simp;omega
  ·rw [FQ,dif_pos h]
 ·refine .inl ⟨?_,?_⟩
  ·have aq:s.size=0:=by omega
   have:s=⟨#[]⟩:=by
    cases s with|mk d=>
    congr 1
    exact Array.eq_empty_of_size_eq_zero aq
   simpa using this
  ·simp;omega
def s8(v:V):Bool:=decide ((if v.ag>v.lo then v.ag else v.lo)>255)||decide ((if v.ag<v.lo then v.ag else v.lo)< -255)
def FR(seen:List V)(v:V):Int:=
 if !isName v.name then 12 else if has v.name (seen.map V.name) then 6 else if v.bool&&(v.lo !=0||v.ag !=0) then 3
 else if !v.bool&&(decide (v.lo>v.ag)||s8 v||decide (IntKind.i64.wrap (v.ag-v.lo)≥64)) then 2 else 0
def h4(l:List V)(i:Nat):Int:=match l[i]? with
 |some v=>FR (l.take i) v
 |none=>0
def jQ(l:List V):Int×Int:=match(List.range l.length).find? (fun i=>h4 l i !=0) with
 |some i=>((i:Int),h4 l i)
 |none=>(0,0)
theorem Q0{l:List V}{i:Nat}{e:Int}(h:∀j:Nat,j<i→h4 l j=0)(ag:i<l.length)(he:h4 l i=e)(aq:e≠0):jQ l=((i:Int),e):=by
 unfold jQ
 have:(List.range l.length).find? (fun i=>h4 l i !=0)=some i:=by
  rw [List.find?_range_eq_some]
  exact ⟨by simpa [he] using aq,by simpa using ag,fun j aH=>by simp [h j aH]⟩
 rw [this]
 simp [he]
theorem Q1{l:List V}(h:∀j:Nat,j<l.length→h4 l j=0):jQ l=(0,0):=by
 unfold jQ
 have:(List.range l.length).find? (fun i=>h4 l i !=0)=none:=by
  rw [List.find?_eq_none]
  intro j aH
  simp [h j (by simpa using aH)]
 rw [this]
theorem abJ{v:V}(aM:v.ok):(!v.bool&&(decide (v.lo>v.ag)||s8 v||decide (IntKind.i64.wrap (v.ag-v.lo)≥64)))=
  (!v.bool&&(decide (v.lo>v.ag)||!(decide (v.lo≥-255)&&decide (v.lo≤255))||!(decide (v.ag≥-255)&&decide (v.ag≤255))||decide (v.span>64))):=by
 cases ak:v.bool with
 |true=>rfl
 |false=>
  by_cases ad:v.lo>v.ag
  ·simp [ad]
  ·have dv:v.lo≤v.ag:=by omega
   by_cases ae:-255≤v.lo∧v.ag≤255
   ·have aS:s8 v=false:=by
     unfold s8
     split<;>(try split)<;>simp<;>omega
    have aV:(decide (v.lo≥-255)&&decide (v.lo≤255))=true:=by simp;omega
    have bz:(decide (v.ag≥-255)&&decide (v.ag≤255))=true:=by simp;omega
    rw [V.Kn ak dv (by omega),aS,aV,bz,wrap64 _ (by omega) (by omega)]
    have cy:decide (v.lo>v.ag)=false:=by simpa using dv
    have dw:decide (v.ag-v.lo≥64)=decide (v.ag-v.lo+1>64):=by rw [decide_eq_decide];omega
    rw [cy,dw]
    rfl
   ·have aS:s8 v=true:=by
     unfold s8
     split<;>(try split)<;>simp<;>omega
    have aV:(!(decide (v.lo≥-255)&&decide (v.lo≤255))||!(decide (v.ag≥-255)&&decide (v.ag≤255)))=true:=by simp;omega
    rw [aS]
    revert aV
    generalize decide (v.lo>v.ag)=p
    generalize (decide (v.lo≥-255)&&decide (v.lo≤255))=q
    generalize (decide (v.ag≥-255)&&decide (v.ag≤255))=r
    cases p<;>cases q<;>cases r<;>simp
theorem abK{l:List V}{x:ByteArray}{i:Nat}(h:∀j:Nat,j<i→(l.map V.name)[j]?≠some x):has x ((l.take i).map V.name)=false:=by
 refine QY fun j aH=>?_
 rw [List.map_take,List.getElem?_take]
 simp at aH
 rw [if_pos (by omega)]
 exact h j (by omega)
theorem abL{l:List V}{w:V}{k i:Nat}(ai:k<i)(hw:l[k]?=some w):has w.name ((l.take i).map V.name)=true:=by
 refine QX (i:=k) ?_
 rw [List.map_take,List.getElem?_take,if_pos ai,List.getElem?_map,hw];rfl
end Go.Am
