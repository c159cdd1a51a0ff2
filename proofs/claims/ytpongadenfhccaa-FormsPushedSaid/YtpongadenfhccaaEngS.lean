/- Steps, joins, and nil slices that become rows of our own. No condition. -/
import Derived.Test.YtpongadenfhccaaEngB
set_option linter.all false
set_option linter.unnecessarySimpa false
namespace Go.Am
set_option linter.unusedVariables false
section
variable {P : Program} {T : TT} {G : Gl} {N : Nat} {σ : St} {Q : Exit → St → Prop} {all : Array Oper}

theorem vOrd_range (l : List Oper) : ∀ (k : Nat) (σ : St) (K : St → Prop), (∀ j, l[j]? = all[k + j]?) → vOps P T G all l K σ → vOrd P T G all (List.range' k l.length) K σ := by
  induction l with
  | nil => intro k σ K _ h; exact h
  | cons o l ih =>
    intro k σ K hl h
    have h0 : all[k]? = some o := by simpa using (hl 0).symm
    simp only [List.length_cons, List.range'_succ, vOrd, h0]
    refine vOp_mono (fun σ' hσ => ih (k + 1) σ' K (fun j => by have := hl (j + 1); simpa [Nat.add_assoc, Nat.add_comm 1 j] using this) hσ) h
theorem awp_draw (hT : TOk P T) (hm : P.follows .mixedOrders = true) {id : Nat} {ops : Array Oper} (hN : dstOk N ops = true) (hord : ordFrom T ops (List.range ops.size) (Array.replicate ops.size false) = true)
    (h : vOps P T G ops ops.toList (Q .normal) σ) : AWp P T G N (.region id ops true) σ Q := by
  refine awp_region_draw hT hm hN (List.range ops.size) (by simp) hord ?_
  rw [List.range_eq_range']
  have := vOrd_range (P := P) (T := T) (G := G) (all := ops) ops.toList 0 σ (Q .normal) (fun j => by simp) h
  simpa using this
end
end Go.Am
namespace Go.Am
set_option linter.unusedVariables false
section
variable {P : Program} {T : TT} {G : Gl} {N : Nat} {σ σ1 : St} {Q : Exit → St → Prop} {id : Nat} {ops : Array Oper}
end
theorem wrap64 (x : Int) (h1 : -9223372036854775808 ≤ x) (h2 : x ≤ 9223372036854775807) : IntKind.i64.wrap x = x := by
  rw [IntKind.wrap_i64]; omega
/-- How a function may end. -/
def Fin (T : TT) (rs : List ResultVar) (R : D → Prop) (e : Exit) (σ' : St) : Prop :=
  (e = .normal ∨ e = .ret) ∧ ∃ r d x, resA T σ' rs = some r ∧ toD σ'.objs r = some d ∧ d.le x ∧ R x
theorem getD_cons_zero {α : Type} (x : α) (l : List α) (d : α) : (x :: l).getD 0 d = x := rfl
theorem getD_cons_succ {α : Type} (x : α) (l : List α) (n : Nat) (d : α) : (x :: l).getD (n + 1) d = l.getD n d := rfl
end Go.Am
namespace Go.Am
set_option linter.unusedVariables false
theorem ent_nil {σ : St} (K : Key) (n : Nat) (slots' : Nat → AV) (objs' : Objs) (hK : σ.objs K = none)
    (hs : ∀ t, slots' t = σ.slots t ∨ σ.slots t = .d (.val (.slice none 0 0)) ∧ slots' t = .row K)
    (ho : ∀ k o, objs' k = some o → k = K ∧ o = .row n [] ∨ k ≠ K ∧ (σ.objs k = some o ∨ ∃ xs i, σ.objs k = some (.box xs) ∧ xs[i]? = some (.d (.val (.slice none 0 0))) ∧ o = .box (xs.set i (.row K))))
    (ho' : ∀ k, σ.objs k ≠ none → objs' k ≠ none) (hKo : objs' K = some (.row n [])) (hbox : ∀ k, isBox (σ.objs k) → isBox (objs' k)) : Ent σ ⟨slots', objs'⟩ := by
  intro m fr ρ a w h
  have hne : ∀ k, σ.used k → k ≠ K := by rintro k ⟨o, hk⟩ rfl; rw [hK] at hk; cases hk
  have hr : ∀ k, σ.used k → St.used ⟨slots', objs'⟩ k ∧ upd ρ K (.slice none 0 0) k = ρ k := fun k hk =>
    ⟨by
      cases hh : objs' k with
      | none => exact absurd hh (ho' k (by obtain ⟨o, e⟩ := hk; rw [e]; simp))
      | some o => exact ⟨o, hh⟩, upd_ne _ _ (hne k hk)⟩
  have hKu : St.used ⟨slots', objs'⟩ K := ⟨_, hKo⟩
  have hKv : upd ρ K (.slice none 0 0) K = .slice none 0 0 := by simp [upd]
  have hrow : AR m (upd ρ K (.slice none 0 0)) (St.used ⟨slots', objs'⟩) (.row K) (.slice none 0 0) := by
    have := AR.row (m := m) (ρ := upd ρ K (.slice none 0 0)) (U := St.used ⟨slots', objs'⟩) K hKu
    rw [hKv] at this
    exact this
  refine ⟨m, upd ρ K (.slice none 0 0), Mem.le_refl m, ⟨h.mem, h.frame, h.apart, ?_, ?_, ?_, ?_, ?_⟩, ?_⟩
  · rintro k ⟨o, hk⟩
    rcases ho k o hk with ⟨rfl, rfl⟩ | ⟨h1, h2⟩
    · rw [hKv]; rfl
    · rw [upd_ne _ _ h1]
      rcases h2 with h2 | ⟨xs, i, h2, _, _⟩
      · exact h.one k ⟨_, h2⟩
      · exact h.one k ⟨_, h2⟩
  · intro t
    rcases hs t with e | ⟨e1, e2⟩
    · show AR m _ _ (slots' t) _
      rw [e]
      exact (h.slots t).mono (Mem.le_refl m) hr
    · show AR m _ _ (slots' t) _
      rw [e2]
      have := h.slots t
      rw [e1] at this
      rw [this.inv_val]
      exact hrow
  · intro k o hk
    rcases ho k o hk with ⟨rfl, rfl⟩ | ⟨h1, h2⟩
    · rw [hKv]; exact .inl ⟨rfl, rfl⟩
    · rw [upd_ne _ _ h1]
      rcases h2 with h2 | ⟨xs, i, h2, h3, rfl⟩
      · exact (h.objs k o h2).mono (Mem.le_refl m) hr (fun _ _ _ => rfl)
      · obtain ⟨b, vs, T, e1, e2, e3, e4⟩ := (h.objs k _ h2).mono (Mem.le_refl m) hr (fun _ _ _ => rfl)
        refine ⟨b, vs, T, e1, e2, by simpa using e3, ?_⟩
        intro j c x hc hx
        rw [List.getElem?_set] at hc
        split at hc
        · rename_i hij
          subst hij
          split at hc
          · cases hc
            have := e4 i _ x h3 hx
            rw [this.inv_val]
            exact hrow
          · cases hc
        · exact e4 j c x hc hx
  · intro k o b hk ho1 hb
    rcases ho k o hk with ⟨rfl, rfl⟩ | ⟨h1, h2⟩
    · have hb' : blockOf (upd ρ k (.slice none 0 0) k) = some b := hb
      rw [hKv] at hb'; cases hb'
    · have hb' : blockOf (upd ρ K (.slice none 0 0) k) = some b := hb
      rw [upd_ne _ _ h1] at hb'
      rcases h2 with h2 | ⟨xs, i, h2, _, rfl⟩
      · exact h.own k o b h2 ho1 hb'
      · exact h.own k _ b h2 rfl hb'
  · intro k k' o o' b hkk hk hk' o1 o2 hb
    rcases ho k o hk with ⟨rfl, rfl⟩ | ⟨h1, h2⟩
    · have hb' : blockOf (upd ρ k (.slice none 0 0) k) = some b := hb
      rw [hKv] at hb'; cases hb'
    · rw [upd_ne _ _ h1] at hb
      rcases ho k' o' hk' with ⟨rfl, rfl⟩ | ⟨h1', h2'⟩
      · rw [hKv]; intro hh; cases hh
      · rw [upd_ne _ _ h1']
        have hold : ∃ p, σ.objs k = some p ∧ p.owns = true := by
          rcases h2 with h2 | ⟨xs, i, h2, _, rfl⟩
          · exact ⟨_, h2, o1⟩
          · exact ⟨_, h2, rfl⟩
        have hold' : ∃ p, σ.objs k' = some p ∧ p.owns = true := by
          rcases h2' with h2' | ⟨xs, i, h2', _, rfl⟩
          · exact ⟨_, h2', o2⟩
          · exact ⟨_, h2', rfl⟩
        obtain ⟨p, q1, q2⟩ := hold
        obtain ⟨p', q1', q2'⟩ := hold'
        exact h.sep k k' p p' b hkk q1 q1' q2 q2' hb
  · intro k hk hb
    refine ⟨hbox k hb, upd_ne _ _ ?_⟩
    obtain ⟨c, hc⟩ := isBox_some hb
    exact hne k ⟨_, hc⟩
theorem ent_nil_slot {σ : St} (t : Nat) (K : Key) (n : Nat) (ht : σ.slots t = .d (.val (.slice none 0 0))) (hK : σ.objs K = none) : Ent σ ⟨upd σ.slots t (.row K), upd σ.objs K (some (.row n []))⟩ := by
  refine ent_nil K n _ _ hK ?_ ?_ ?_ (by simp [upd]) ?_
  · intro j
    by_cases h : j = t
    · subst h; exact .inr ⟨ht, by simp [upd]⟩
    · exact .inl (by simp [upd, h])
  · intro k o hk
    by_cases h : k = K
    · subst h; simp [upd] at hk; exact .inl ⟨rfl, hk.symm⟩
    · rw [upd_ne _ _ h] at hk; exact .inr ⟨h, .inl hk⟩
  · intro k hk
    by_cases h : k = K
    · subst h; simp [upd]
    · rw [upd_ne _ _ h]; exact hk
  · intro k hb
    have h : k ≠ K := by rintro rfl; rw [hK] at hb; exact isBox_none hb
    rw [upd_ne _ _ h]; exact hb
theorem ent_nil_box {σ : St} (k : Key) (i : Nat) (K : Key) (n : Nat) {xs : List AV} (hk : σ.objs k = some (.box xs)) (hi : xs[i]? = some (.d (.val (.slice none 0 0)))) (hK : σ.objs K = none) :
    Ent σ ⟨σ.slots, upd (upd σ.objs k (some (.box (xs.set i (.row K))))) K (some (.row n []))⟩ := by
  have hkK : k ≠ K := by rintro rfl; rw [hK] at hk; cases hk
  refine ent_nil K n _ _ hK (fun _ => .inl rfl) ?_ ?_ (by simp [upd]) ?_
  · intro j o hj
    by_cases h : j = K
    · subst h; simp [upd] at hj; exact .inl ⟨rfl, hj.symm⟩
    · rw [upd_ne _ _ h] at hj
      by_cases h2 : j = k
      · subst h2
        simp [upd] at hj
        exact .inr ⟨h, .inr ⟨xs, i, hk, hi, hj.symm⟩⟩
      · rw [upd_ne _ _ h2] at hj; exact .inr ⟨h, .inl hj⟩
  · intro j hj
    by_cases h : j = K
    · subst h; simp [upd]
    · rw [upd_ne _ _ h]
      by_cases h2 : j = k
      · subst h2; simp [upd]
      · rw [upd_ne _ _ h2]; exact hj
  · intro j hb
    have h : j ≠ K := by rintro rfl; rw [hK] at hb; exact isBox_none hb
    rw [upd_ne _ _ h]
    by_cases h2 : j = k
    · subst h2; rw [upd_same]; exact isBox_box
    · rw [upd_ne _ _ h2]; exact hb
/-- A row of our own is a piece of itself. -/
theorem ent_all_slot {σ : St} (t : Nat) (K : Key) (n : Nat) {es : List (List D)} (ht : σ.slots t = .row K) (hk : σ.objs K = some (.row n es)) : Ent σ ⟨upd σ.slots t (.sub K n 0 es.length), σ.objs⟩ := by
  intro m fr ρ a w h
  refine ⟨m, ρ, Mem.le_refl m, ⟨h.mem, h.frame, h.apart, h.one, ?_, h.objs, h.own, h.sep⟩, Keep.refl _ _⟩
  intro s
  by_cases hs : s = t
  · subst hs
    have h1 := h.slots s
    rw [ht] at h1
    show AR m _ _ (upd σ.slots s _ s) _
    rw [upd_same]
    generalize a.tmps.getD s undef = v at *
    cases h1 with | row _ hu =>
    rcases h.objs _ _ hk with ⟨e1, e2⟩ | ⟨b, o, cap, vs, T', e1, e2, e3, e4, e5, e6⟩
    · rw [e1, e2]
      exact .sub0 K n 0 hu e1
    · rw [e1]
      exact AR.sub (m := m) (ρ := ρ) (U := σ.used) K n 0 es.length b o es.length cap o hu e1 (by omega) ⟨fun _ => by simp, by omega⟩
  · show AR m _ _ (upd σ.slots t _ s) _
    rw [upd_ne _ _ hs]
    exact h.slots s
end Go.Am
namespace Go.Am
set_option linter.unusedVariables false
theorem effOp0_keep {T : TT} {ev : Operand → AV} {objs : Objs} {d : Key} {o : Op} {r : AV} {ups : List (Key × Ob)} (h : effOp0 T ev objs d o = some (r, ups)) (hno : ∀ t a x, o ≠ .store t a x) : ∀ j c, objs j = some (.box c) → updO objs ups j = some (.box c) := by
  have upk : ∀ {objs : Objs} {k : Key} {o : Ob}, (∀ c, objs k ≠ some (.box c)) → ∀ j c, objs j = some (.box c) → upd objs k (some o) j = some (.box c) := by
    intro objs k o hk j c hj
    have : j ≠ k := by rintro rfl; exact hk c hj
    rw [upd_ne _ _ this]; exact hj
  have new : ∀ {o : Ob}, objs d = none → ∀ j c, objs j = some (.box c) → updO objs [(d, o)] j = some (.box c) := by
    intro o hd
    exact upk (by intro c hc; rw [hd] at hc; cases hc)
  have same : ∀ {k : Key} {o0 o : Ob}, objs k = some o0 → (∀ c, o0 ≠ .box c) → ∀ j c, objs j = some (.box c) → updO objs [(k, o)] j = some (.box c) := by
    intro k o0 o hk hne
    exact upk (by intro c hc; rw [hk] at hc; cases hc; exact hne c rfl)
  cases o <;> simp only [effOp0, reduceCtorEq] at h
  case alloc => split at h <;> cases h; exact new (by assumption)
  case box => split at h <;> cases h; exact new (by assumption)
  case buildSlice =>
    split at h
    case h_2 => cases h
    split at h
    case h_2 => cases h
    split at h
    case h_2 => cases h
    split at h <;> cases h
    exact new (by assumption)
  case makeSlice =>
    split at h
    case h_2 => cases h
    split at h
    case h_2 => cases h
    split at h
    case h_2 => cases h
    split at h <;> cases h
    exact new (by assumption)
  case makeMap => split at h <;> cases h; exact new (by assumption)
  case store => exact absurd rfl (hno _ _ _)
  case mapUpdate =>
    split at h
    case h_2 => cases h
    split at h
    case h_2 => cases h
    split at h
    case isFalse => cases h
    split at h
    case h_2 => cases h
    split at h
    case h_2 => cases h
    split at h <;> cases h
    exact same (by assumption) (by intro c hc; cases hc)
  case insert =>
    split at h
    case h_2 => cases h
    split at h
    case h_2 => cases h
    split at h
    case isFalse => cases h
    split at h
    case h_2 => cases h
    split at h
    case h_2 => cases h
    split at h <;> cases h
    exact same (by assumption) (by intro c hc; cases hc)
  case call =>
    split at h
    · split at h
      case h_2 => cases h
      split at h
      case h_2 => cases h
      split at h
      case h_2 => cases h
      split at h
      case h_2 => cases h
      split at h
      case isFalse => cases h
      split at h
      · split at h <;> cases h
        exact new (by assumption)
      · split at h
        case h_2 => cases h
        split at h <;> cases h
        rename_i hd _ _ _ _ _ _ _ _ _ _ _ _ hk _ _
        have h00 := same (o := .dead) (by assumption) (by intro c hc; cases hc)
        intro j c0 hj
        have h1 := h00 j c0 hj
        refine upk ?_ j c0 h1
        intro c hb
        have hne : ∀ key x, objs key = some x → d ≠ key := by
          rintro key x hx rfl
          have h0 : objs d = none := by assumption
          rw [h0] at hx; cases hx
        rw [upd_ne _ _ (hne _ _ (by assumption))] at hb
        clear upk new same h00 h1 hne
        simp_all
      · cases h
    · split at h
      case h_2 => cases h
      split at h
      case h_2 => cases h
      split at h
      case h_2 => cases h
      split at h
      case h_2 => cases h
      split at h
      case isFalse => cases h
      split at h
      · split at h
        case h_2 => cases h
        split at h <;> cases h
        exact same (by assumption) (by intro c hc; cases hc)
      · split at h
        case h_2 => cases h
        split at h <;> cases h
        exact same (by assumption) (by intro c hc; cases hc)
      · cases h
    · split at h
      case h_2 => cases h
      split at h
      case h_2 => cases h
      split at h
      case h_2 => cases h
      split at h
      case h_2 => cases h
      split at h
      case h_2 => cases h
      split at h <;> cases h
      exact same (by assumption) (by intro c hc; cases hc)
    · cases h

theorem effOp_keep {T : TT} {ev : Operand → AV} {objs : Objs} {d : Key} {o : Op} {r : AV} {ups : List (Key × Ob)} (h : effOp T ev objs d o = some (r, ups)) (hno : ∀ t a x, o ≠ .store t a x) : ∀ j c, objs j = some (.box c) → updO objs ups j = some (.box c) := by
  obtain ⟨⟨r0, ups0⟩, h0, hb⟩ := effOp_some h
  have h1 := effOp0_keep h0 hno
  intro j c hj
  have h2 := h1 j c hj
  rcases bornR_cases (T.born d) d r0 ups0 with e | ⟨n, es, rfl, rfl, e⟩ | ⟨j', n, es, rfl, rfl, e⟩ | ⟨off, cs, ds, rfl, rfl, hds, e⟩
  · rw [hb] at e; cases e; exact h2
  · rw [hb] at e; cases e
    by_cases hd : j = d
    · subst hd; simp only [updO, upd_same] at h2; cases h2
    · simp only [updO, upd_ne _ _ hd] at h2 ⊢; exact h2
  · rw [hb] at e; cases e
    by_cases hd : j = d
    · subst hd; simp only [updO, upd_same] at h2; cases h2
    · simp only [updO, upd_ne _ _ hd] at h2 ⊢; exact h2
  · rw [hb] at e; cases e
    have hn : objs d = none := effOp0_new h0
    by_cases hd : j = d
    · subst hd; rw [hn] at hj; cases hj
    · simp only [updO, upd_ne _ _ hd]; exact hj

section
variable {P : Program} {T : TT} {G : Gl} {all : Array Oper}
theorem vDo_keep {y : Oper} {σ : St} {K K' : St → Prop} (hno : ∀ t a x, y.op ≠ .store t a x) (hk : ∀ objs r, (∀ j c, σ.objs j = some (.box c) → objs j = some (.box c)) → K (St.put ⟨σ.slots, objs⟩ y.dst r) → K' (St.put ⟨σ.slots, objs⟩ y.dst r))
    (h : vDo P T G y K σ) : vDo P T G y K' σ := by
  unfold vDo at *
  rw [stepA_res] at *
  cases hr : res T G σ y with
  | none => simp only [hr, Option.map_none] at h ⊢; exact vCall_mono h fun r hr => hk σ.objs r (fun _ _ h => h) hr
  | some p =>
    simp only [hr, Option.map_some] at h ⊢
    refine hk _ _ ?_ h
    intro j c hj
    obtain ⟨r, ups⟩ := p
    unfold res at hr
    split at hr
    · cases hr; exact hj
    · split at hr
      · cases hr; exact hj
      · exact effOp_keep hr hno j c hj

theorem load_box {t a k off : Nat} {σ : St} {x : Oper} (hx : x.op = .load t (.tmp a)) (hs : σ.slots a = .ptr k off) {K : St → Prop} (h : vDo P T G x K σ) :
    ∃ r, K (σ.put x.dst r) ∧ ∀ objs, (∀ j c, σ.objs j = some (.box c) → objs j = some (.box c)) → res T G ⟨σ.slots, objs⟩ x = some (r, []) := by
  unfold vDo at h
  rw [stepA_res] at h
  cases hr : res T G σ x with
  | none =>
    simp only [hr, Option.map_none] at h
    unfold vCall at h
    rw [hx] at h
    exact h.elim
  | some p =>
    simp only [hr, Option.map_some] at h
    obtain ⟨r, ups⟩ := p
    unfold res at hr
    rw [hx] at hr
    simp only [pureOp, memOp, evA, hs, effOp, effOp0, Option.map_none] at hr
    cases hT : T t with
    | none => simp [hT] at hr
    | some i =>
      simp only [hT] at hr
      cases hk : σ.objs k with
      | none => simp [hk] at hr
      | some o =>
        cases o with
        | box cells =>
          simp only [hk] at hr
          cases hp : pickA i cells off with
          | none => simp [hp] at hr
          | some q =>
            simp only [hp, Option.some.injEq, Prod.mk.injEq] at hr
            obtain ⟨rfl, rfl⟩ := hr
            refine ⟨q, h, fun objs ho => ?_⟩
            unfold res
            rw [hx]
            simp only [pureOp, memOp, evA, hs, hT, ho k cells hk, hp]
        | dead => simp [hk] at hr
        | row => simp [hk] at hr
        | map => simp [hk] at hr
theorem swapLoad {x y : Oper} {σ : St} {K : St → Prop} {t a k off : Nat} (hx : x.op = .load t (.tmp a)) (hxg : x.guard = none) (hs : σ.slots a = .ptr k off) (hno : ∀ t a x, y.op ≠ .store t a x) (hap : x.apart all y = true)
    (h : vOp P T G all x (fun σ1 => vOp P T G all y K σ1) σ) : vOp P T G all y (fun σ2 => vOp P T G all x K σ2) σ := by
  obtain ⟨a1, a2, a3⟩ := Oper.apart_spec hap
  have a2' : ∀ d, y.dst = some d → x.dst ≠ some d := fun d hd hx => a2 d hx hd
  have hvx : ∀ (K : St → Prop) σ, vOp P T G all x K σ = vDo P T G x K σ := fun K σ => by unfold vOp; simp only [hxg]
  simp only [hvx] at h ⊢
  obtain ⟨r, h1, h2⟩ := load_box hx hs h
  have hxd : ∀ (K : St → Prop) objs, (∀ j c, σ.objs j = some (.box c) → objs j = some (.box c)) → vDo P T G x K ⟨σ.slots, objs⟩ = K (St.put ⟨σ.slots, objs⟩ x.dst r) := fun K objs ho => vDo_res (h2 objs ho)
  rw [vOp_eq, wantA_put a1] at h1
  rw [vOp_eq]
  split at h1
  · rename_i hw
    try simp only [hw]
    rw [vDo_put a1 a2] at h1
    refine vDo_keep hno (fun objs q ho hk => ?_) h1
    rw [vDo_put a3 a2', hxd _ _ ho, put_comm a2]
    exact hk
  · rename_i hw
    try simp only [hw]
    show vDo P T G x K (σ.put y.dst _)
    rw [vDo_put a3 a2']
    have := hxd (fun σ' => K (σ'.put y.dst (.d (.val (.tuple #[]))))) σ.objs (fun _ _ h => h)
    have e : vDo P T G x (fun σ' => K (σ'.put y.dst (.d (.val (.tuple #[]))))) σ = K ((σ.put x.dst r).put y.dst (.d (.val (.tuple #[])))) := this
    rw [e]
    exact h1
  · exact h1.elim

theorem vOp_slot {y : Oper} {σ : St} {K : St → Prop} {a : Nat} (hd : y.dst ≠ some a) (h : vOp P T G all y K σ) : vOp P T G all y (fun σ' => σ'.slots a = σ.slots a ∧ K σ') σ := by
  have hp : ∀ (objs : Objs) (r : AV), (St.put ⟨σ.slots, objs⟩ y.dst r).slots a = σ.slots a := fun objs r => by
    cases hy : y.dst with
    | none => rfl
    | some d =>
      have : a ≠ d := by rintro rfl; exact hd hy
      simp only [St.put, upd_ne _ _ this]
  rw [vOp_eq] at h ⊢
  split at h
  · rename_i hw
    try simp only [hw]
    exact step_slots (fun objs r hk => ⟨hp objs r, hk⟩) h
  · rename_i hw
    try simp only [hw]
    exact ⟨hp σ.objs _, h⟩
  · exact h.elim
/-- A load from a box may be taken first, ahead of all that is apart from it and no store. -/
theorem amAny_firstL {K : St → Prop} {i : Nat} {oi : Oper} {t a k off : Nat} (hi : all[i]? = some oi) (hx : oi.op = .load t (.tmp a)) (hxg : oi.guard = none) {B : List Nat} (hB : ∀ j oj, j ∈ B → all[j]? = some oj → ∃ e ∈ oj.after, Region.binds .any e = true ∧ (e.on = i ∨ e.on ∈ B)) : ∀ (fuel : Nat) (listed : Array Bool) (σ : St), σ.slots a = .ptr k off →
    (∀ j, j ∈ B → listed.getD j true = false) →
    (∀ j oj, all[j]? = some oj → j ≠ i → listed.getD j true = false → j ∉ B → oi.apart all oj = true ∧ ∀ t a x, oj.op ≠ .store t a x) →
    i ∈ Region.ready .any all listed → amOp P T G all i (amAny P T G all K fuel (listed.setIfInBounds i true)) σ → amAny P T G all K (fuel + 1) listed σ := by
  intro fuel
  induction fuel with
  | zero =>
    intro listed σ hS hun0 hfree hr H
    refine ⟨fun h => (by rw [h] at hr; cases hr), fun j hj => ?_⟩
    by_cases hji : j = i
    · subst hji; exact H
    · have hm := ready_mono hj hji
      exfalso
      have key : Region.ready .any all (listed.setIfInBounds i true) = [] := by
        unfold amOp at H
        simp only [hi] at H
        unfold vOp at H
        simp only [hxg] at H
        obtain ⟨r, h1, _⟩ := load_box hx hS H
        exact h1.1
      rw [key] at hm; cases hm
  | succ fuel ih =>
    intro listed σ hS hun0 hfree hr H
    refine ⟨fun h => (by rw [h] at hr; cases hr), fun j hj => ?_⟩
    by_cases hji : j = i
    · subst hji; exact H
    · obtain ⟨hjun, oj, hoj, hall⟩ := mem_ready.1 hj
      have hoff : ∀ k, listed.getD k true = false → listed[k]?.getD false = true → False := fun k h0 h1 => by
        rcases Nat.lt_or_ge k listed.size with h' | h'
        · simp [h'] at h0 h1; rw [h0] at h1; cases h1
        · simp [Array.getElem?_eq_none h'] at h1
      have hnot : j ∉ B := fun hjB => by
        obtain ⟨e, he, hb, hor⟩ := hB j oj hjB hoj
        have h1 := hall e he hb
        rcases hor with hor | hor
        · rw [hor] at h1
          exact hoff i (mem_ready.1 hr).1 (by simpa using h1)
        · exact hoff _ (hun0 _ hor) (by simpa using h1)
      obtain ⟨p1, p2⟩ := hfree j oj hoj hji hjun hnot
      have h1 : amOp P T G all i (fun σ1 => amOp P T G all j (amAny P T G all K fuel ((listed.setIfInBounds i true).setIfInBounds j true)) σ1) σ := amOp_mono (fun σ1 hσ => hσ.2 j (ready_mono hj hji)) H
      have hda : oj.dst ≠ some a := fun hd => by
        obtain ⟨_, _, a3⟩ := Oper.apart_spec p1
        refine a3 a hd ?_
        unfold Oper.looksAt
        rw [hx]
        simp [Op.operands]
      have h2 : amOp P T G all j (fun σ2 => σ2.slots a = σ.slots a ∧ amOp P T G all i (amAny P T G all K fuel ((listed.setIfInBounds i true).setIfInBounds j true)) σ2) σ := by
        unfold amOp at h1 ⊢
        simp only [hi, hoj] at h1 ⊢
        exact vOp_slot hda (swapLoad hx hxg hS p2 p1 h1)
      have hfree' : ∀ k ok, all[k]? = some ok → k ≠ i → (listed.setIfInBounds j true).getD k true = false →
          k ∉ B → oi.apart all ok = true ∧ ∀ t a x, ok.op ≠ .store t a x := fun k ok hk hki hun hno => by
        refine hfree k ok hk hki ?_ hno
        by_cases hjk : j = k
        · subst hjk; exact hjun
        · rw [getD_set_ne true hjk] at hun; exact hun
      refine amOp_mono (fun σ2 h3 => ih (listed.setIfInBounds j true) σ2 (h3.1.trans hS) (fun k hk => by
        have hjk : j ≠ k := by rintro rfl; exact hnot hk
        rw [getD_set_ne true hjk]; exact hun0 k hk) hfree' (ready_mono hr (Ne.symm hji)) ?_) h2
      rw [Array.setIfInBounds_comm _ _ hji]
      exact h3.2
end
end Go.Am
namespace Go.Am
set_option linter.unusedVariables false
section
variable {P : Program} {T : TT} {G : Gl} {all : Array Oper}
/-- The thing of our own that an address leads into. -/
def keyA : AV → Option Key
  | .ptr k _ => some k
  | .ep k _ _ _ => some k
  | _ => none
def keyOf (slots : Nat → AV) : Operand → Option Key
  | .tmp a => keyA (slots a)
  | _ => none
theorem keyOf_ev {slots : Nat → AV} (x : Operand) : keyA (evA G slots x) = keyOf slots x := by
  cases x with
  | tmp a => rfl
  | const v => rfl
  | func f => rfl
  | global g =>
    simp only [evA, keyOf]
    split <;> rfl
def isD (slots : Nat → AV) : Operand → Bool
  | .tmp a => match slots a with
    | .d _ => true
    | _ => false
  | .const _ => true
  | _ => false
def isStoreK (slots : Nat → AV) (k : Key) : Op → Bool
  | .store _ a _ => match keyOf slots a with
    | some k' => k' != k
    | none => false
  | _ => false
def isSt : Op → Bool
  | .store _ _ _ => true
  | _ => false
def isBx (slots : Nat → AV) : Operand → Bool
  | .tmp a => match slots a with
    | .ptr _ _ => true
    | _ => false
  | _ => false
/-- Data, or a place in memory that never changes. -/
def isDRv : AV → Bool
  | .d _ => true
  | .rp _ _ => true
  | _ => false
def isDR (slots : Nat → AV) : Operand → Bool
  | .tmp a => isDRv (slots a)
  | _ => false
/-- It looks at data alone. -/
def dataOp (slots : Nat → AV) : Op → Bool
  | .load _ a => isDR slots a
  | .indexAddr _ x _ => isDR slots x
  | .lookup _ m _ _ => isDR slots m
  | .slice _ x _ _ none => isDR slots x
  | .call ⟨.builtin .len, args, _⟩ => args.toList.all (isDR slots)
  | _ => false
/-- May x be taken ahead of y? What is known of the slots decides. -/
def okPair (slots : Nat → AV) (x y : Oper) : Bool := pass x y || dataOp slots x.op || match x.op with
  | .binOp _ _ a b _ => isD slots a && isD slots b
  | .load _ a => match keyOf slots a with
    | some k => (isBx slots a && !isSt y.op) || opP y.op || opM y.op || opC y.op || isStoreK slots k y.op
    | none => false
  | .indexAddr _ _ _ => opP y.op || opM y.op || opC y.op || isSt y.op
  | .store _ a _ => match keyOf slots a with
    | some k => isStoreK slots k y.op
    | none => false
  | _ => false
/-- The same place still. -/
def Same1 (k : Key) (o o' : Objs) : Prop := o' k = o k
/-- Rows keep their number of elements. -/
def SameL (o o' : Objs) : Prop := ∀ k n es, o k = some (.row n es) → ∃ es', o' k = some (.row n es') ∧ es'.length = es.length

theorem vDo_objs {y : Oper} {σ : St} {K K' : St → Prop} {R : Objs → Prop} (h0 : R σ.objs) (hR : ∀ r ups, res T G σ y = some (r, ups) → R (updO σ.objs ups)) (hk : ∀ objs r, R objs → K (St.put ⟨σ.slots, objs⟩ y.dst r) → K' (St.put ⟨σ.slots, objs⟩ y.dst r))
    (h : vDo P T G y K σ) : vDo P T G y K' σ := by
  unfold vDo at *
  rw [stepA_res] at *
  cases hr : res T G σ y with
  | none => simp only [hr, Option.map_none] at h ⊢; exact vCall_mono h fun r hr => hk σ.objs r h0 hr
  | some p =>
    simp only [hr, Option.map_some] at h ⊢
    obtain ⟨r, ups⟩ := p
    exact hk _ _ (hR r ups hr) h
theorem quiet_res {σ : St} {y : Oper} (h : (opP y.op || opM y.op || opC y.op) = true) {r : AV} {ups : List (Key × Ob)} (hr : res T G σ y = some (r, ups)) : ups = [] := by
  unfold res at hr
  split at hr
  · cases hr; rfl
  · split at hr
    · cases hr; rfl
    · simp only [Bool.or_eq_true] at h
      rcases h with (h | h) | h
      · rw [(opP_spec h).2] at hr; cases hr
      · rw [opM_spec h] at hr; cases hr
      · rw [(opC_spec (T := T) (ev := evA G σ.slots) (objs := σ.objs) (d := y.dst.getD 9999) h).2.2] at hr; cases hr
theorem store_res {σ : St} {y : Oper} {t : TypeId} {a x : Operand} (hy : y.op = .store t a x) {r : AV} {ups : List (Key × Ob)} (hr : res T G σ y = some (r, ups)) :
    ∃ k o o', keyOf σ.slots a = some k ∧ ups = [(k, o')] ∧ σ.objs k = some o ∧ ((∃ c c', o = .box c ∧ o' = .box c') ∨ ∃ n es es', o = .row n es ∧ o' = .row n es' ∧ es'.length = es.length) := by
  rw [← keyOf_ev (G := G)]
  unfold res at hr
  rw [hy] at hr
  simp only [pureOp, memOp, effOp_store, effOp0] at hr
  split at hr
  case h_2 => cases hr
  split at hr
  case isFalse => cases hr
  split at hr
  · rename_i k off he
    split at hr
    case h_2 => cases hr
    rename_i cells ho
    split at hr <;> cases hr
    exact ⟨k, _, _, by rw [he]; rfl, rfl, ho, .inl ⟨_, _, rfl, rfl⟩⟩
  · rename_i k kk ix off he
    split at hr
    case h_2 => cases hr
    rename_i k' es ds ho hd
    split at hr
    case isFalse => cases hr
    rename_i hc
    split at hr <;> cases hr
    exact ⟨k, _, _, by rw [he]; rfl, rfl, ho, .inr ⟨kk, es, _, by rw [hc.1], rfl, by simp⟩⟩
  · cases hr
theorem updO_at {objs : Objs} {k : Key} {o : Ob} (j : Key) : updO objs [(k, o)] j = if j = k then some o else objs j := by
  by_cases h : j = k
  · subst h; simp [updO, upd_same]
  · simp [updO, upd_ne _ _ h, h]
/-- What a quiet operation, or a store elsewhere, leaves. -/
theorem keep_same {σ : St} {y : Oper} {k : Key} (h : (opP y.op || opM y.op || opC y.op || isStoreK σ.slots k y.op) = true) {r : AV} {ups : List (Key × Ob)} (hr : res T G σ y = some (r, ups)) : Same1 k σ.objs (updO σ.objs ups) := by
  rcases Bool.or_eq_true_iff.1 h with h | h
  · rw [quiet_res h hr]; rfl
  · unfold isStoreK at h
    split at h
    case h_2 => cases h
    rename_i t a x hy
    obtain ⟨k', o, o', h1, rfl, h2, _⟩ := store_res hy hr
    rw [h1] at h
    simp only [bne_iff_ne, ne_eq] at h
    show updO σ.objs [(k', o')] k = σ.objs k
    rw [updO_at, if_neg (fun e => h e.symm)]
theorem SameL.refl (o : Objs) : SameL o o := fun k n es h => ⟨es, h, rfl⟩
theorem keep_len {σ : St} {y : Oper} (h : (opP y.op || opM y.op || opC y.op || isSt y.op) = true) {r : AV} {ups : List (Key × Ob)} (hr : res T G σ y = some (r, ups)) : SameL σ.objs (updO σ.objs ups) := by
  rcases Bool.or_eq_true_iff.1 h with h | h
  · rw [quiet_res h hr]; exact SameL.refl _
  · unfold isSt at h
    split at h
    case h_2 => cases h
    rename_i t a x hy
    obtain ⟨k', o, o', h1, rfl, h2, h3⟩ := store_res hy hr
    intro k n es hk
    rw [updO_at]
    by_cases e : k = k'
    · subst e
      rw [if_pos rfl]
      rw [h2] at hk
      rcases h3 with ⟨c, c', rfl, rfl⟩ | ⟨m, es1, es2, rfl, rfl, hl⟩
      · cases hk
      · cases hk; exact ⟨es2, rfl, hl⟩
    · rw [if_neg e]; exact ⟨es, hk, rfl⟩
/-! ### An operation that only looks -/
/-- What it answers does not hang on what 'R' leaves open. -/
def Looks (T : TT) (G : Gl) (x : Oper) (slots : Nat → AV) (o : Objs) (R : Objs → Prop) : Prop := ∀ r ups, res T G ⟨slots, o⟩ x = some (r, ups) → ups = [] ∧ ∀ o', R o' → res T G ⟨slots, o'⟩ x = some (r, [])
theorem swapLook {x y : Oper} {σ : St} {K : St → Prop} {R : Objs → Prop} (hxg : x.guard = none) (hxc : opC x.op = false) (hap : x.apart all y = true) (hl : Looks T G x σ.slots σ.objs R) (h0 : R σ.objs) (hR : ∀ r ups, res T G σ y = some (r, ups) → R (updO σ.objs ups))
    (h : vOp P T G all x (fun σ1 => vOp P T G all y K σ1) σ) : vOp P T G all y (fun σ2 => vOp P T G all x K σ2) σ := by
  obtain ⟨a1, a2, a3⟩ := Oper.apart_spec hap
  have a2' : ∀ d, y.dst = some d → x.dst ≠ some d := fun d hd hx => a2 d hx hd
  have hvx : ∀ (K : St → Prop) σ, vOp P T G all x K σ = vDo P T G x K σ := fun K σ => by unfold vOp; simp only [hxg]
  simp only [hvx] at h ⊢
  have hnone : res T G σ x ≠ none := by
    intro hn
    rw [vDo_call hn] at h
    have := vCall_kind h
    rw [hxc] at this; cases this
  obtain ⟨p, hp⟩ := Option.ne_none_iff_exists'.1 hnone
  obtain ⟨r, ups⟩ := p
  obtain ⟨rfl, h2⟩ := hl r ups hp
  have h1 : vOp P T G all y K (σ.put x.dst r) := by
    rw [vDo_res hp] at h; exact h
  have hxd : ∀ (K : St → Prop) objs, R objs → vDo P T G x K ⟨σ.slots, objs⟩ = K (St.put ⟨σ.slots, objs⟩ x.dst r) := fun K objs ho => vDo_res (h2 objs ho)
  rw [vOp_eq, wantA_put a1] at h1
  rw [vOp_eq]
  split at h1
  · rename_i hw
    try simp only [hw]
    rw [vDo_put a1 a2] at h1
    refine vDo_objs h0 hR (fun objs q ho hk => ?_) h1
    rw [vDo_put a3 a2', hxd _ _ ho, put_comm a2]
    exact hk
  · rename_i hw
    try simp only [hw]
    show vDo P T G x K (σ.put y.dst _)
    rw [vDo_put a3 a2']
    have e : vDo P T G x (fun σ' => K (σ'.put y.dst (.d (.val (.tuple #[]))))) σ = K ((σ.put x.dst r).put y.dst (.d (.val (.tuple #[])))) := hxd (fun σ' => K (σ'.put y.dst (.d (.val (.tuple #[]))))) σ.objs h0
    rw [e]
    exact h1
  · exact h1.elim
theorem isD_ev {slots : Nat → AV} {x : Operand} (h : isD slots x = true) : ∃ d, evA G slots x = .d d := by
  unfold isD at h
  split at h
  · split at h
    · rename_i d hd; exact ⟨d, hd⟩
    · cases h
  · exact ⟨_, rfl⟩
  · cases h
theorem someS_d (o o' : Objs) (x : D) : someS o (.d x) = someS o' (.d x) := by
  unfold someS
  split <;> first | rfl | (rename_i h; cases h) | skip
  all_goals rfl
theorem isDR_ev {slots : Nat → AV} {x : Operand} (h : isDR slots x = true) : (∃ d, evA G slots x = .d d) ∨ ∃ cs off, evA G slots x = .rp cs off := by
  cases x with
  | tmp a =>
    simp only [isDR] at h
    show (∃ d, slots a = .d d) ∨ ∃ cs off, slots a = .rp cs off
    generalize slots a = v at h
    cases v <;> first | exact .inl ⟨_, rfl⟩ | exact .inr ⟨_, _, rfl⟩ | cases h
  | _ => cases h
theorem lenA_d (o o' : Objs) (x : D) : lenA o (.d x) = lenA o' (.d x) := by
  unfold lenA
  split <;> first | rfl | (rename_i h; cases h) | skip
  all_goals rfl
theorem lenA_rp (o o' : Objs) (cs : List D) (off : Nat) : lenA o (.rp cs off) = lenA o' (.rp cs off) := rfl
theorem memOp_data {slots : Nat → AV} {op : Op} (h : dataOp slots op = true) (o o' : Objs) : memOp T (evA G slots) o op = memOp T (evA G slots) o' op := by
  cases op <;> simp only [dataOp, Bool.false_eq_true] at h
  case load t a =>
    rcases isDR_ev (G := G) h with ⟨d, e⟩ | ⟨cs, off, e⟩ <;> simp only [memOp, e]
  case indexAddr t x i =>
    rcases isDR_ev (G := G) h with ⟨d, e⟩ | ⟨cs, off, e⟩
    · simp only [memOp, e]
      cases d <;> rfl
    · simp only [memOp, e]
  case lookup t m k ok =>
    rcases isDR_ev (G := G) h with ⟨d, e⟩ | ⟨cs, off, e⟩
    · simp only [memOp, e]
      split
      · cases d <;> first | rfl | skip
        rename_i v
        cases v <;> first | rfl | skip
        rename_i q
        cases q <;> rfl
      · rfl
    · simp only [memOp, e]
  case slice t x lo hi mx =>
    cases mx with
    | some _ => cases h
    | none =>
      simp only at h
      rcases isDR_ev (G := G) h with ⟨d, e⟩ | ⟨cs, off, e⟩
      · simp only [memOp, e, lenA_d o o' d]
        cases d <;> rfl
      · simp only [memOp, e, lenA_rp o o' cs off]
  case call c =>
    obtain ⟨callee, args, tys⟩ := c
    cases callee with
    | value => rfl
    | invoke => rfl
    | builtin b =>
      cases b <;> first | rfl | skip
      simp only at h
      simp only [memOp]
      split
      · rename_i t x e1 e2
        rw [e2] at h
        simp only [List.all_cons, List.all_nil, Bool.and_true] at h
        rcases isDR_ev (G := G) h with ⟨d, e⟩ | ⟨cs, off, e⟩
        · simp only [e]
          cases hT : T t with
          | none => rfl
          | some i =>
            obtain ⟨ds, s, b, z⟩ := i
            cases ds
            case map k q =>
              cases d
              case val v =>
                cases v
                case map r => cases r <;> rfl
                all_goals rfl
              all_goals rfl
            case slice q => simp only [lenA_d o o' d]
            case string =>
              cases d
              case val v => cases v <;> rfl
              all_goals rfl
            all_goals rfl
        · simp only [e]
          cases hT : T t with
          | none => rfl
          | some i =>
            obtain ⟨ds, s, b, z⟩ := i
            cases ds <;> rfl
      · rfl
theorem dataOp_M {slots : Nat → AV} {op : Op} (h : dataOp slots op = true) : opM op = true := by
  cases op <;> simp only [dataOp, Bool.false_eq_true] at h <;> first | rfl | skip
  case call c =>
    obtain ⟨callee, args, tys⟩ := c
    cases callee with
    | value => cases h
    | invoke => cases h
    | builtin b => cases b <;> first | rfl | cases h
theorem looks_data {x : Oper} {slots : Nat → AV} {o : Objs} (h : dataOp slots x.op = true) : Looks T G x slots o (fun _ => True) := by
  intro r ups hr
  have hm := dataOp_M h
  unfold res at hr
  split at hr
  · rename_i u hu
    cases hr
    refine ⟨rfl, fun o' _ => ?_⟩
    unfold res
    simp only [hu]
  · rename_i hp
    split at hr
    · rename_i u hu
      cases hr
      refine ⟨rfl, fun o' _ => ?_⟩
      unfold res
      simp only at hu
      simp only [hp, memOp_data h o' o, hu]
    · rw [opM_spec hm] at hr; cases hr
theorem looks_bin {x : Oper} {op : BinOp} {t : TypeId} {a b : Operand} {q : TypeId} (hx : x.op = .binOp op t a b q) {slots : Nat → AV} {o : Objs} (ha : isD slots a = true) (hb : isD slots b = true) : Looks T G x slots o (fun _ => True) := by
  intro r ups hr
  obtain ⟨d1, e1⟩ := isD_ev (G := G) ha
  obtain ⟨d2, e2⟩ := isD_ev (G := G) hb
  unfold res at hr
  rw [hx] at hr
  cases hp : pureOp T (evA G slots) (.binOp op t a b q) with
  | some u =>
    rw [hp] at hr
    cases hr
    refine ⟨rfl, fun o' _ => ?_⟩
    unfold res
    rw [hx, hp]
  | none =>
    rw [hp] at hr
    simp only at hr
    have hm : ∀ o', memOp T (evA G slots) o' (.binOp op t a b q) = memOp T (evA G slots) o (.binOp op t a b q) := by
      intro o'
      simp only [memOp, e1, e2, someS_d o' o]
    cases hm0 : memOp T (evA G slots) o (.binOp op t a b q) with
    | some u =>
      rw [hm0] at hr
      cases hr
      refine ⟨rfl, fun o' _ => ?_⟩
      unfold res
      rw [hx, hp]
      simp only [hm o', hm0]
    | none => rw [hm0] at hr; simp [effOp, effOp0] at hr
theorem looks_load {x : Oper} {t : TypeId} {a : Operand} {k : Key} (hx : x.op = .load t a) {slots : Nat → AV} {o : Objs} (ha : keyOf slots a = some k) : Looks T G x slots o (Same1 k o) := by
  intro r ups hr
  have he : keyA (evA G slots a) = some k := by rw [keyOf_ev]; exact ha
  unfold res at hr
  rw [hx] at hr
  simp only [pureOp] at hr
  have hm : ∀ o', o' k = o k → memOp T (evA G slots) o' (.load t a) = memOp T (evA G slots) o (.load t a) := by
    intro o' ho
    simp only [memOp]
    generalize evA G slots a = v at he ⊢
    cases v <;> simp only [keyA, reduceCtorEq, Option.some.injEq] at he
    · subst he; simp only [ho]
    · subst he; simp only [ho]
  cases hm0 : memOp T (evA G slots) o (.load t a) with
  | some u =>
    rw [hm0] at hr
    cases hr
    refine ⟨rfl, fun o' ho => ?_⟩
    unfold res
    rw [hx]
    simp only [pureOp, hm o' ho, hm0]
  | none => rw [hm0] at hr; simp [effOp, effOp0] at hr
theorem looks_ix {x : Oper} {t : TypeId} {a b : Operand} (hx : x.op = .indexAddr t a b) {slots : Nat → AV} {o : Objs} : Looks T G x slots o (SameL o) := by
  intro r ups hr
  unfold res at hr
  rw [hx] at hr
  simp only [pureOp] at hr
  cases hm0 : memOp T (evA G slots) o (.indexAddr t a b) with
  | some u =>
    rw [hm0] at hr
    cases hr
    refine ⟨rfl, fun o' ho => ?_⟩
    have hm : memOp T (evA G slots) o' (.indexAddr t a b) = some r := by
      simp only [memOp] at hm0 ⊢
      split at hm0
      · split at hm0
        · split at hm0
          · rename_i hn
            rw [if_pos hn]
            split at hm0 <;> first | exact hm0 | skip
            rename_i key hv
            cases hk : o key with
            | none => rw [hk] at hm0; cases hm0
            | some ob =>
              cases ob with
              | row k es =>
                obtain ⟨es', h1, h2⟩ := ho key k es hk
                rw [hk] at hm0
                rw [h1]
                simp only [h2] at hm0 ⊢
                exact hm0
              | dead => rw [hk] at hm0; cases hm0
              | box => rw [hk] at hm0; cases hm0
              | map => rw [hk] at hm0; cases hm0
          · cases hm0
        · cases hm0
      · exact hm0
      · cases hm0
    unfold res
    rw [hx]
    simp only [pureOp, hm]
  | none => rw [hm0] at hr; simp [effOp, effOp0] at hr
/-! ### Two stores -/
theorem st_comm {o : Objs} {k k' : Key} {a b : Ob} (h : k ≠ k') : updO (updO o [(k, a)]) [(k', b)] = updO (updO o [(k', b)]) [(k, a)] := by
  funext j
  simp only [updO_at]
  by_cases h1 : j = k <;> by_cases h2 : j = k' <;> simp_all
/-- What a store does hangs on its own thing alone. -/
theorem store_at {y : Oper} {t : TypeId} {a x : Operand} {k : Key} (hy : y.op = .store t a x) {slots : Nat → AV} {o o' : Objs} (ha : keyOf slots a = some k) (ho : o' k = o k) : res T G ⟨slots, o'⟩ y = res T G ⟨slots, o⟩ y := by
  have he : keyA (evA G slots a) = some k := by rw [keyOf_ev]; exact ha
  unfold res
  rw [hy]
  simp only [pureOp, memOp, effOp_store, effOp0]
  generalize evA G slots a = v at he ⊢
  cases v <;> simp only [keyA, reduceCtorEq, Option.some.injEq] at he
  · subst he; simp only [ho]
  · subst he; simp only [ho]
theorem swapStore {x y : Oper} {σ : St} {K : St → Prop} {t t' : TypeId} {a a' v v' : Operand} {k k' : Key} (hx : x.op = .store t a v) (hy : y.op = .store t' a' v') (ha : keyOf σ.slots a = some k) (ha' : keyOf σ.slots a' = some k') (hne : k' ≠ k)
    (hxg : x.guard = none) (hap : x.apart all y = true) (h : vOp P T G all x (fun σ1 => vOp P T G all y K σ1) σ) : vOp P T G all y (fun σ2 => vOp P T G all x K σ2) σ := by
  obtain ⟨a1, a2, a3⟩ := Oper.apart_spec hap
  have a2' : ∀ d, y.dst = some d → x.dst ≠ some d := fun d hd hx => a2 d hx hd
  have hvx : ∀ (K : St → Prop) σ, vOp P T G all x K σ = vDo P T G x K σ := fun K σ => by unfold vOp; simp only [hxg]
  simp only [hvx] at h ⊢
  have notcall : ∀ {z : Oper} {tt : TypeId} {p q : Operand} {τ : St} {K' : St → Prop}, z.op = .store tt p q → vDo P T G z K' τ → ∃ r k1 o1, res T G τ z = some (r, [(k1, o1)]) ∧ keyOf τ.slots p = some k1 ∧ K' (τ.step z.dst r [(k1, o1)]) := by
    intro z tt p q τ K' hz hh
    cases hr : res T G τ z with
    | none =>
      rw [vDo_call hr] at hh
      have := vCall_kind hh
      rw [hz] at this; cases this
    | some u =>
      obtain ⟨r, ups⟩ := u
      obtain ⟨k1, o, o1, q1, rfl, _, _⟩ := store_res hz hr
      exact ⟨r, k1, o1, rfl, q1, by rw [vDo_res hr] at hh; exact hh⟩
  obtain ⟨r, k1, o1, q1, q2, q3⟩ := notcall hx h
  rw [ha] at q2; cases q2
  have q3' : vOp P T G all y K (St.put ⟨σ.slots, updO σ.objs [(k, o1)]⟩ x.dst r) := q3
  have hoth : ∀ (o2 : Objs), o2 k = σ.objs k → ∀ K' : St → Prop, vDo P T G x K' ⟨σ.slots, o2⟩ = K' (St.put ⟨σ.slots, updO o2 [(k, o1)]⟩ x.dst r) := by
    intro o2 ho K'
    have : res T G ⟨σ.slots, o2⟩ x = some (r, [(k, o1)]) := by rw [store_at hx ha ho]; exact q1
    exact vDo_res this
  rw [vOp_eq, wantA_put a1] at q3'
  rw [vOp_eq]
  have hwant : wantA all ⟨σ.slots, updO σ.objs [(k, o1)]⟩ y = wantA all σ y := rfl
  rw [hwant] at q3'
  split at q3'
  · rename_i hw
    try simp only [hw]
    rw [vDo_put a1 a2] at q3'
    obtain ⟨r2, k2, o2, p1, p2, p3⟩ := notcall hy q3'
    have p2' : keyOf σ.slots a' = some k2 := p2
    rw [ha'] at p2'; cases p2'
    have p1' : res T G σ y = some (r2, [(k', o2)]) := by
      rw [← p1]
      exact (store_at (T := T) (G := G) hy (o := σ.objs) (o' := updO σ.objs [(k, o1)]) ha' (by rw [updO_at, if_neg hne])).symm
    rw [vDo_res p1']
    show vDo P T G x K (St.put ⟨σ.slots, updO σ.objs [(k', o2)]⟩ y.dst r2)
    rw [vDo_put a3 a2', hoth _ (by rw [updO_at, if_neg (fun e => hne e.symm)]), put_comm a2, st_comm hne]
    exact p3
  · rename_i hw
    try simp only [hw]
    show vDo P T G x K (σ.put y.dst _)
    rw [vDo_put a3 a2']
    have e := hoth σ.objs rfl (fun σ' => K (σ'.put y.dst (.d (.val (.tuple #[])))))
    have e' : vDo P T G x (fun σ' => K (σ'.put y.dst (.d (.val (.tuple #[]))))) σ = _ := e
    rw [e']
    exact q3'
  · exact q3'.elim
/-! ### All together -/
theorem okPair_swap {x y : Oper} {σ : St} {K : St → Prop} (hxg : x.guard = none) (hap : x.apart all y = true) (h : okPair σ.slots x y = true) (H : vOp P T G all x (fun σ1 => vOp P T G all y K σ1) σ) :
    vOp P T G all y (fun σ2 => vOp P T G all x K σ2) σ := by
  unfold okPair at h
  rcases Bool.or_eq_true_iff.1 h with h | h
  · rcases Bool.or_eq_true_iff.1 h with h | h
    · exact swap hap h H
    · refine swapLook hxg ?_ hap (looks_data h) trivial (fun _ _ _ => trivial) H
      cases hc : opC x.op with
      | false => rfl
      | true => have := opC_not hc; rw [dataOp_M h] at this; cases this.2.1
  split at h
  · rename_i op t a b q hx
    rw [Bool.and_eq_true] at h
    exact swapLook hxg (by rw [hx]; rfl) hap (looks_bin hx h.1 h.2) trivial (fun _ _ _ => trivial) H
  · rename_i t a hx
    split at h
    case h_2 => cases h
    rename_i k hk
    simp only [Bool.or_eq_true] at h
    have other : (opP y.op || opM y.op || opC y.op || isStoreK σ.slots k y.op) = true → vOp P T G all y (fun σ2 => vOp P T G all x K σ2) σ := fun h' =>
      swapLook hxg (by rw [hx]; rfl) hap (looks_load hx hk) (rfl : Same1 k σ.objs σ.objs) (fun _ _ hr => keep_same h' hr) H
    rcases h with (((h | h) | h) | h) | h
    · rw [Bool.and_eq_true] at h
      obtain ⟨h1, h2⟩ := h
      unfold isBx at h1
      split at h1
      case h_2 => cases h1
      rename_i a0
      split at h1
      case h_2 => cases h1
      rename_i k0 off hs
      refine swapLoad hx hxg hs ?_ hap H
      intro t' a' v' he
      rw [he] at h2
      cases h2
    · exact other (by simp [h])
    · exact other (by simp [h])
    · exact other (by simp [h])
    · exact other (by simp [h])
  · rename_i t a b hx
    exact swapLook hxg (by rw [hx]; rfl) hap (looks_ix hx) (SameL.refl _) (fun _ _ hr => keep_len h hr) H
  · rename_i t a v hx
    split at h
    case h_2 => cases h
    rename_i k hk
    unfold isStoreK at h
    split at h
    case h_2 => cases h
    rename_i t' a' v' hy
    split at h
    case h_2 => cases h
    rename_i k' hk'
    exact swapStore hx hy hk hk' (by simpa using h) hxg hap H
  · cases h
def xT : Op → List Tmp
  | .binOp _ _ a b _ => (match a with | .tmp t => [t] | _ => []) ++ (match b with | .tmp t => [t] | _ => [])
  | .load _ (.tmp a) => [a]
  | .store _ (.tmp a) _ => [a]
  | .indexAddr _ (.tmp a) _ => [a]
  | .lookup _ (.tmp a) _ _ => [a]
  | .slice _ (.tmp a) _ _ _ => [a]
  | .call ⟨.builtin .len, args, _⟩ => args.toList.filterMap fun x => match x with | .tmp t => some t | _ => none
  | _ => []
def addrT : Op → List Tmp
  | .store _ (.tmp a) _ => [a]
  | _ => []
theorem keyOf_congr {s s' : Nat → AV} {x : Operand} (h : ∀ t, x = .tmp t → s t = s' t) : keyOf s x = keyOf s' x := by
  cases x with
  | tmp t => simp only [keyOf, h t rfl]
  | _ => rfl
theorem isD_congr {s s' : Nat → AV} {x : Operand} (h : ∀ t, x = .tmp t → s t = s' t) : isD s x = isD s' x := by
  cases x with
  | tmp t => simp only [isD, h t rfl]
  | _ => rfl
theorem isBx_congr {s s' : Nat → AV} {x : Operand} (h : ∀ t, x = .tmp t → s t = s' t) : isBx s x = isBx s' x := by
  cases x with
  | tmp t => simp only [isBx, h t rfl]
  | _ => rfl
theorem okPair_congr {s s' : Nat → AV} {x y : Oper} (h : ∀ t, t ∈ xT x.op ∨ t ∈ addrT y.op → s t = s' t) : okPair s x y = okPair s' x y := by
  have hy : ∀ k, isStoreK s k y.op = isStoreK s' k y.op := by
    intro k
    unfold isStoreK
    split
    · rename_i t a v he
      rw [keyOf_congr (s := s) (s' := s') (x := a) (fun q hq => h q (.inr (by rw [he, hq]; simp [addrT])))]
    · rfl
  have hd : dataOp s x.op = dataOp s' x.op := by
    have hx : ∀ t, t ∈ xT x.op → s t = s' t := fun t ht => h t (.inl ht)
    generalize x.op = op at hx
    have one : ∀ a : Operand, (∀ t, a = .tmp t → t ∈ xT op) → isDR s a = isDR s' a := by
      intro a ha
      cases a with
      | tmp t => simp only [isDR, hx t (ha t rfl)]
      | _ => rfl
    cases op <;> simp only [dataOp]
    case load t a => exact one a (by rintro t rfl; simp [xT])
    case indexAddr t a i => exact one a (by rintro t rfl; simp [xT])
    case lookup t a k ok => exact one a (by rintro t rfl; simp [xT])
    case slice t a lo hi mx =>
      cases mx with
      | none => exact one a (by rintro t rfl; simp [xT])
      | some _ => rfl
    case call c =>
      obtain ⟨callee, args, tys⟩ := c
      cases callee with
      | value => rfl
      | invoke => rfl
      | builtin b =>
        cases b <;> first | rfl | skip
        simp only
        rw [Bool.eq_iff_iff, List.all_eq_true, List.all_eq_true]
        have ha : ∀ a ∈ args.toList, isDR s a = isDR s' a := fun a ha => one a (by rintro t rfl; simp only [xT, List.mem_filterMap]; exact ⟨_, ha, rfl⟩)
        exact ⟨fun h a hm => by rw [← ha a hm]; exact h a hm, fun h a hm => by rw [ha a hm]; exact h a hm⟩
  unfold okPair
  rw [hd]
  congr 1
  split
  · rename_i op t a b q hx
    have ha : ∀ t, a = .tmp t → s t = s' t := fun t ht => h t (.inl (by rw [hx, ht]; simp [xT]))
    have hb : ∀ t, b = .tmp t → s t = s' t := fun t ht => h t (.inl (by rw [hx, ht]; simp [xT]))
    rw [isD_congr ha, isD_congr hb]
  · rename_i t a hx
    have ha : ∀ t, a = .tmp t → s t = s' t := fun t ht => h t (.inl (by rw [hx, ht]; simp [xT]))
    rw [keyOf_congr ha, isBx_congr ha]
    split
    · rw [hy]
    · rfl
  · rfl
  · rename_i t a v hx
    have ha : ∀ t, a = .tmp t → s t = s' t := fun t ht => h t (.inl (by rw [hx, ht]; simp [xT]))
    rw [keyOf_congr ha]
    split
    · rw [hy]
    · rfl
  · rfl
theorem vOp_slotsL {y : Oper} {σ : St} {K : St → Prop} {L : List Tmp} (hd : ∀ a ∈ L, y.dst ≠ some a) (h : vOp P T G all y K σ) : vOp P T G all y (fun σ' => (∀ a ∈ L, σ'.slots a = σ.slots a) ∧ K σ') σ := by
  have hp : ∀ (objs : Objs) (r : AV), ∀ a ∈ L, (St.put ⟨σ.slots, objs⟩ y.dst r).slots a = σ.slots a := fun objs r a ha => by
    cases hy : y.dst with
    | none => rfl
    | some d =>
      have : a ≠ d := by rintro rfl; exact hd a ha hy
      simp only [St.put, upd_ne _ _ this]
  rw [vOp_eq] at h ⊢
  split at h
  · rename_i hw
    try simp only [hw]
    exact step_slots (fun objs r hk => ⟨hp objs r, hk⟩) h
  · rename_i hw
    try simp only [hw]
    exact ⟨hp σ.objs _, h⟩
  · exact h.elim
theorem vOp_some {x : Oper} {σ : St} {p : Prop} (h : vOp P T G all x (fun _ => p) σ) : p := by
  rw [vOp_eq] at h
  split at h
  · unfold vDo at h
    split at h
    · exact h
    · unfold vCall at h
      split at h
      · split at h
        · obtain ⟨_, _, _, _, _, _, ⟨r, hr'⟩, _, q⟩ := h
          exact q r (by rw [hr'])
        · exact h.elim
      · exact h.elim
  · exact h
  · exact h.elim
/-- An operation that may be taken ahead of all that is left, by what is known of the slots. -/
theorem amAny_firstG {K : St → Prop} {i : Nat} {oi : Oper} (hi : all[i]? = some oi) (hxg : oi.guard = none) {B : List Nat} (hB : ∀ j oj, j ∈ B → all[j]? = some oj → ∃ e ∈ oj.after, Region.binds .any e = true ∧ (e.on = i ∨ e.on ∈ B)) {s0 : Nat → AV} {L : List Tmp} (hxL : ∀ t ∈ xT oi.op, t ∈ L) :
    ∀ (fuel : Nat) (listed : Array Bool) (σ : St), (∀ t ∈ L, σ.slots t = s0 t) →
    (∀ j, j ∈ B → listed.getD j true = false) →
    (∀ j oj, all[j]? = some oj → j ≠ i → listed.getD j true = false → j ∉ B → oi.apart all oj = true ∧ okPair s0 oi oj = true ∧ (∀ t ∈ L, oj.dst ≠ some t) ∧ ∀ t ∈ addrT oj.op, t ∈ L) →
    i ∈ Region.ready .any all listed → amOp P T G all i (amAny P T G all K fuel (listed.setIfInBounds i true)) σ → amAny P T G all K (fuel + 1) listed σ := by
  intro fuel
  induction fuel with
  | zero =>
    intro listed σ hS hun0 hfree hr H
    refine ⟨fun h => (by rw [h] at hr; cases hr), fun j hj => ?_⟩
    by_cases hji : j = i
    · subst hji; exact H
    · have hm := ready_mono hj hji
      exfalso
      have key : Region.ready .any all (listed.setIfInBounds i true) = [] := by
        have H' := amOp_mono (K' := fun _ => Region.ready .any all (listed.setIfInBounds i true) = []) (fun σ' h' => h'.1) H
        unfold amOp at H'
        simp only [hi] at H'
        exact vOp_some H'
      rw [key] at hm; cases hm
  | succ fuel ih =>
    intro listed σ hS hun0 hfree hr H
    refine ⟨fun h => (by rw [h] at hr; cases hr), fun j hj => ?_⟩
    by_cases hji : j = i
    · subst hji; exact H
    · obtain ⟨hjun, oj, hoj, hall⟩ := mem_ready.1 hj
      have hoff : ∀ k, listed.getD k true = false → listed[k]?.getD false = true → False := fun k h0 h1 => by
        rcases Nat.lt_or_ge k listed.size with h' | h'
        · simp [h'] at h0 h1; rw [h0] at h1; cases h1
        · simp [Array.getElem?_eq_none h'] at h1
      have hnot : j ∉ B := fun hjB => by
        obtain ⟨e, he, hb, hor⟩ := hB j oj hjB hoj
        have h1 := hall e he hb
        rcases hor with hor | hor
        · rw [hor] at h1
          exact hoff i (mem_ready.1 hr).1 (by simpa using h1)
        · exact hoff _ (hun0 _ hor) (by simpa using h1)
      obtain ⟨p1, p2, p3, p4⟩ := hfree j oj hoj hji hjun hnot
      have h1 : amOp P T G all i (fun σ1 => amOp P T G all j (amAny P T G all K fuel ((listed.setIfInBounds i true).setIfInBounds j true)) σ1) σ := amOp_mono (fun σ1 hσ => hσ.2 j (ready_mono hj hji)) H
      have h2 : amOp P T G all j (fun σ2 => (∀ a ∈ L, σ2.slots a = σ.slots a) ∧ amOp P T G all i (amAny P T G all K fuel ((listed.setIfInBounds i true).setIfInBounds j true)) σ2) σ := by
        unfold amOp at h1 ⊢
        simp only [hi, hoj] at h1 ⊢
        have hok : okPair σ.slots oi oj = true := by
          rw [← p2]
          refine okPair_congr fun t ht => hS t ?_
          rcases ht with ht | ht
          · exact hxL t ht
          · exact p4 t ht
        exact vOp_slotsL p3 (okPair_swap hxg p1 hok h1)
      have hfree' : ∀ k ok, all[k]? = some ok → k ≠ i → (listed.setIfInBounds j true).getD k true = false →
          k ∉ B → oi.apart all ok = true ∧ okPair s0 oi ok = true ∧ (∀ t ∈ L, ok.dst ≠ some t) ∧ ∀ t ∈ addrT ok.op, t ∈ L := fun k ok hk hki hun hno => by
        refine hfree k ok hk hki ?_ hno
        by_cases hjk : j = k
        · subst hjk; exact hjun
        · rw [getD_set_ne true hjk] at hun; exact hun
      refine amOp_mono (fun σ2 h3 => ih (listed.setIfInBounds j true) σ2 (fun t ht => (h3.1 t ht).trans (hS t ht)) (fun k hk => by
        have hjk : j ≠ k := by rintro rfl; exact hnot hk
        rw [getD_set_ne true hjk]; exact hun0 k hk) hfree' (ready_mono hr (Ne.symm hji)) ?_) h2
      rw [Array.setIfInBounds_comm _ _ hji]
      exact h3.2
end
end Go.Am
namespace Go.Am
structure V where
  name : ByteArray
  bool : Bool
  lo : Int
  hi : Int
def V.cells (v : V) : List D := [eS v.name, eB v.bool, eI v.lo, eI v.hi]
def V.d (v : V) : D := .agg v.cells
def inI (n : Int) : Prop := -9223372036854775808 ≤ n ∧ n ≤ 9223372036854775807
def V.ok (v : V) : Prop := inI v.lo ∧ inI v.hi ∧ v.name.size ≤ 9223372036854775807

/-- Is the string there? -/
def has (x : ByteArray) (l : List ByteArray) : Bool := l.any fun y => decide (y = x)
/-- Where a string stands first, or -1. -/
def idxOf (x : ByteArray) (l : List ByteArray) : Int := match l.findIdx? (fun y => decide (y = x)) with
  | some i => (i : Nat)
  | none => -1
end Go.Am
