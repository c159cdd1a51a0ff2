/- Calls, regions in any order, loops: their rules over such values. No condition. -/
import Derived.Test.YtpongadenfhccaaEngA
import Derived.Still
import Derived.Scope
set_option linter.all false
set_option linter.unnecessarySimpa false
namespace Go.Am
set_option linter.unusedVariables false

def St.put (σ : St) (dst : Option Tmp) (r : AV) : St := match dst with
  | some d => ⟨upd σ.slots d r, σ.objs⟩
  | none => σ

def stepA (T : TT) (G : Gl) (σ : St) (o : Oper) : Option St :=
  match pureOp T (evA G σ.slots) o.op with
  | some r => some (σ.put o.dst r)
  | none => match memOp T (evA G σ.slots) σ.objs o.op with
    | some r => some (σ.put o.dst r)
    | none => match effOp T (evA G σ.slots) σ.objs (o.dst.getD 9999) o.op with
      | some (r, ups) => some (St.put ⟨σ.slots, updO σ.objs ups⟩ o.dst r)
      | none => none

/-! ### Calls of functions that only take data -/
structure MemOK (m : Mem) (fr : Frm) (w : World) : Prop where
  mem : ∀ b o, m b = some o → w.heap[b]? = some o
  frame : Framed fr w
  apart : ∀ b, m b ≠ none → fr b = none
theorem Den.ok {m : Mem} {fr : Frm} {ρ : Rho} {σ : St} {a : Act} {w : World} (h : Den m fr ρ σ a w) : MemOK m fr w := ⟨h.mem, h.frame, h.apart⟩

def DRs (m : Mem) (ds : List D) (vs : List Value) : Prop := vs.length = ds.length ∧ ∀ (i : Nat) (d : D) (v : Value), ds[i]? = some d → vs[i]? = some v → DR m d v

def FnOk (P : Program) (f : FuncId) : Prop := ∃ fn, P.funcs[f]? = some fn ∧ (fn.name == "runtime.NumGoroutine") = false ∧ fn.body.isNone = false

/-- Called with data, the function hands data back; whatever was there stays as it was. -/
structure PCalls (P : Program) (G : Gl) (f : FuncId) (ds : List D) (R : D → Prop) : Prop where
  fn : FnOk P f
  run : ∀ m fr w vs, GOk G m → MemOK m fr w → DRs m ds vs → Calls P f vs.toArray w fun e w' => ∃ v m' r, e = .returned v ∧ R r ∧ m.le m' ∧ MemOK m' fr w' ∧ DR m' r v

theorem PCalls.mono {P : Program} {G : Gl} {f : FuncId} {ds : List D} {R R' : D → Prop} (h : PCalls P G f ds R) (hr : ∀ r, R r → R' r) : PCalls P G f ds R' :=
  ⟨h.fn, fun m fr w vs hG hM hD => (h.run m fr w vs hG hM hD).mono fun e w' ⟨v, m', r, h1, h2, h3⟩ => ⟨v, m', r, h1, hr r h2, h3⟩⟩

def LeAll : List D → List D → Prop
  | [], [] => True
  | x :: xs, y :: ys => x.le y ∧ LeAll xs ys
  | _, _ => False
theorem LeAll.refl : ∀ l : List D, LeAll l l
  | [] => trivial
  | x :: l => ⟨x.le_refl, LeAll.refl l⟩
theorem LeAll.ok {m : Mem} : ∀ {xs ys : List D} {vs : List Value}, LeAll xs ys → DRs m xs vs → DRs m ys vs
  | [], [], vs, _, h => h
  | x :: xs, y :: ys, [], _, h => by have := h.1; simp at this
  | x :: xs, y :: ys, v :: vs, hl, h => by
    have ih := LeAll.ok (m := m) (vs := vs) hl.2 ⟨by simpa using h.1, fun i d u hd hu => h.2 (i + 1) d u (by simpa using hd) (by simpa using hu)⟩
    refine ⟨by simpa using ih.1, ?_⟩
    intro i d u hd hu
    cases i with
    | zero => simp at hd hu; subst hd; subst hu; exact hl.1 m v (h.2 0 x v rfl rfl)
    | succ i => exact ih.2 i d u (by simpa using hd) (by simpa using hu)
  | [], y :: ys, vs, h, _ => h.elim
  | x :: xs, [], vs, h, _ => h.elim

/-- Does it lead to no memory? -/
def D.flat : D → Bool
  | .val _ => true
  | .agg cs => cs.all fun c => match c with
    | .val _ => true
    | _ => false
  | .tup cs => cs.all fun c => match c with
    | .val _ => true
    | .agg cs => cs.all fun c => match c with
      | .val _ => true
      | _ => false
    | _ => false
  | _ => false

theorem flat_val {m m' : Mem} {c : D} {v : Value} (h : (match c with | .val _ => true | _ => false) = true) (hd : DR m c v) : DR m' c v := by
  cases c <;> first | (cases hd; exact .val _) | cases h
theorem flat_agg {m m' : Mem} {cs : List D} {v : Value} (h : (cs.all fun c => match c with | .val _ => true | _ => false) = true) (hd : DR m (.agg cs) v) : DR m' (.agg cs) v := by
  cases hd with
  | agg _ vs hl hh => exact .agg _ _ hl fun i c u hc hu => flat_val (List.all_eq_true.1 h c (List.mem_of_getElem? hc)) (hh i c u hc hu)
theorem D.flat_ok {m m' : Mem} {x : D} {v : Value} (h : x.flat = true) (hd : DR m x v) : DR m' x v := by
  cases x with
  | val => cases hd; exact .val _
  | agg cs => exact flat_agg h hd
  | tup cs =>
    cases hd with
    | tup _ vs hl hh =>
      refine .tup _ _ hl fun i c u hc hu => ?_
      have h1 := List.all_eq_true.1 h c (List.mem_of_getElem? hc)
      have h2 := hh i c u hc hu
      cases c with
      | val => cases h2; exact .val _
      | agg cs => exact flat_agg h1 h2
      | tup => cases h1
      | sl => cases h1
      | ifc => cases h1
      | mp => cases h1
      | ref => cases h1
      | fn => cases h1
  | sl => cases h
  | ifc => cases h
  | mp => cases h
  | ref => cases h
  | fn => cases h

/-- What it reads as, our own things looked through. -/
def toDa (objs : Objs) : AV → Option D
  | .d x => some x
  | .row key => match objs key with
    | some (.row k es) => some (.sl k es)
    | _ => none
  | .sub key k i len => match objs key with
    | some (.row k' es) => if k = k' ∧ i + len ≤ es.length then some (.sl k ((es.drop i).take len)) else none
    | _ => none
  | .map key => match objs key with
    | some (.map es) => some (.mp es)
    | _ => none
  | _ => none
def allSome {α : Type} : List (Option α) → Option (List α)
  | [] => some []
  | some x :: r => match allSome r with
    | some l => some (x :: l)
    | none => none
  | none :: _ => none
theorem allSome_get {α : Type} : ∀ {l : List (Option α)} {r : List α}, allSome l = some r → r.length = l.length ∧ ∀ (i : Nat) (x : α), r[i]? = some x → l[i]? = some (some x)
  | [], r, h => by simp [allSome] at h; subst h; simp
  | none :: l, r, h => by simp [allSome] at h
  | some x :: l, r, h => by
    simp only [allSome] at h
    split at h
    case h_2 => cases h
    rename_i l' hl'
    cases h
    have ih := allSome_get hl'
    refine ⟨by simp [ih.1], ?_⟩
    intro i y hy
    cases i with
    | zero => simpa using hy
    | succ i => exact ih.2 i y (by simpa using hy)
def toD0 (objs : Objs) : AV → Option D
  | .ptr key off => match objs key with
    | some (.box cells) => match allSome (cells.map (toDa objs)) with
      | some cs => some (.ref cs off)
      | none => none
    | _ => none
  | .rp cs off => some (.ref cs off)
  | x => toDa objs x
def toD1 (objs : Objs) : AV → Option D
  | .agg cs => match allSome (cs.map (toD0 objs)) with
    | some ds => some (.agg ds)
    | none => none
  | .fn f first cap => match allSome (first.map (toD0 objs)), allSome (cap.map (toD0 objs)) with
    | some as, some bs => some (.fn f as bs)
    | _, _ => none
  | x => toD0 objs x
def toD (objs : Objs) : AV → Option D
  | .tup cs => match allSome (cs.map (toD1 objs)) with
    | some ds => some (.tup ds)
    | none => none
  | x => toD1 objs x

/-- All our own things, taken for ever. -/
noncomputable def Den.all (m : Mem) (ρ : Rho) (objs : Objs) (w : World) : Mem := fun b =>
  match m b with
  | some o => some o
  | none => open Classical in if ∃ k o, objs k = some o ∧ o.owns = true ∧ blockOf (ρ k) = some b then w.heap[b]? else none

section
variable {P : Program} {T : TT} {G : Gl} {m : Mem} {fr : Frm} {ρ : Rho} {σ : St} {a : Act} {w : World}

theorem Den.all_le (m : Mem) (ρ : Rho) (objs : Objs) (w : World) : m.le (Den.all m ρ objs w) := by
  intro b o h; simp [Den.all, h]
theorem Den.all_own (h : Den m fr ρ σ a w) {k : Key} {o : Ob} {b : Nat} (hk : σ.objs k = some o) (ho : o.owns = true) (hb : blockOf (ρ k) = some b) : Den.all m ρ σ.objs w b = w.heap[b]? := by
  have := (h.own k o b hk ho hb).1
  simp only [Den.all, this]
  rw [if_pos ⟨k, o, hk, ho, hb⟩]
theorem Den.all_mem (h : Den m fr ρ σ a w) : ∀ b o, Den.all m ρ σ.objs w b = some o → w.heap[b]? = some o := by
  intro b o hb
  unfold Den.all at hb
  cases hm : m b with
  | some x => simp only [hm] at hb; cases hb; exact h.mem b _ hm
  | none =>
    simp only [hm] at hb
    split at hb
    · exact hb
    · cases hb
theorem Den.all_ok (h : Den m fr ρ σ a w) : MemOK (Den.all m ρ σ.objs w) fr w := by
  refine ⟨h.all_mem, h.frame, ?_⟩
  intro b hb
  unfold Den.all at hb
  cases hm : m b with
  | some x => exact h.apart b (by rw [hm]; simp)
  | none =>
    simp only [hm] at hb
    split at hb
    · rename_i hc
      obtain ⟨k, o, h1, h2, h3⟩ := hc
      exact (h.own k o b h1 h2 h3).2
    · exact absurd rfl hb

theorem toDa_ok (h : Den m fr ρ σ a w) {x : AV} {v : Value} {d : D} (hx : AR m ρ σ.used x v) (hd : toDa σ.objs x = some d) : DR (Den.all m ρ σ.objs w) d v := by
  have hle := Den.all_le m ρ σ.objs w
  have row : ∀ key k es v, σ.objs key = some (.row k es) → v = ρ key → DR (Den.all m ρ σ.objs w) (.sl k es) v := by
    rintro key k es v hk rfl
    rcases h.objs _ _ hk with ⟨e1, rfl⟩ | ⟨b, o, cap, vs, T', e1, e2, e3, e4, e5, e6⟩
    · rw [e1]; exact .sl0 _ _ _
    · have hb := h.all_own hk rfl (by rw [e1]; rfl)
      obtain ⟨f1, f2⟩ := flat_of_block (m := m) e5 e6
      rw [e1]
      refine .sl k es b o cap vs T' (0, 0) (by rw [hb]; exact e2) e5 e3 (fun i j => (vs[o + i * k + j]?).getD undef) ?_ ?_
      · intro i e j c hi hj
        obtain ⟨x, g1, g2⟩ := e6 i e j c hi hj
        rw [g1]; rfl
      · intro i e j c hi hj
        obtain ⟨x, g1, g2⟩ := e6 i e j c hi hj
        simp only [g1, Option.getD_some]
        exact g2.mono hle
  unfold toDa at hd
  split at hd
  · cases hd
    exact hx.inv_d.mono hle
  · rename_i key
    split at hd
    case h_2 => cases hd
    rename_i k es hk
    cases hd
    cases hx
    exact row key k es _ hk rfl
  · rename_i key k i len
    split at hd
    case h_2 => cases hd
    rename_i k' es hk
    split at hd
    case isFalse => cases hd
    rename_i hc
    obtain ⟨rfl, hle'⟩ := hc
    cases hd
    cases hx with
    | sub0 _ _ _ hu hr => rw [List.take_zero]; exact .sl0 _ _ _
    | sub _ _ _ _ b o L cap ad hu hr hcap ha =>
    have hlen : ((es.drop i).take len).length = len := by simp; omega
    rcases Nat.eq_zero_or_pos len with h0 | hpos
    · subst h0; rw [List.take_zero]; exact .sl0 _ _ _
    · have hrow := row key k es _ hk rfl
      rw [hr] at hrow
      cases hrow with
      | sl0 => simp at hle'; omega
      | sl _ _ _ _ _ vs T' fz hm hkk hc xs h1 h2 =>
        have := DR.sl (m := Den.all m ρ σ.objs w) k ((es.drop i).take len) b (o + i * k) (cap - i) vs T' fz hm (fun e he => hkk e (List.mem_of_mem_drop (List.mem_of_mem_take he))) (by omega) (fun p j => xs (i + p) j)
          (fun p el j c hel hc => by
            rw [List.getElem?_take] at hel
            split at hel
            case isFalse => cases hel
            rw [List.getElem?_drop] at hel
            have := h1 (i + p) el j c hel hc
            rw [← this]
            congr 1
            rw [Nat.add_mul]; omega)
          (fun p el j c hel hc => by
            rw [List.getElem?_take] at hel
            split at hel
            case isFalse => cases hel
            rw [List.getElem?_drop] at hel
            exact h2 (i + p) el j c hel hc)
        rw [hlen] at this
        rw [ha.1 (by omega)]
        exact this
  · rename_i key
    split at hd
    case h_2 => cases hd
    rename_i es hk
    cases hd
    cases hx
    obtain ⟨r, ents, clock, e1, e2, e3, e4, e5⟩ := h.objs _ _ hk
    have hb := h.all_own hk rfl (by rw [e1]; rfl)
    rw [e1]
    exact .mp es r ents clock (by rw [hb]; exact e2) e3 e4 (fun i e x he hx => (e5 i e x he hx).mono hle)
  · cases hd

theorem toD0_ok (h : Den m fr ρ σ a w) {x : AV} {v : Value} {d : D} (hx : AR m ρ σ.used x v) (hd : toD0 σ.objs x = some d) : DR (Den.all m ρ σ.objs w) d v := by
  have hle := Den.all_le m ρ σ.objs w
  unfold toD0 at hd
  split at hd
  · rename_i key off
    split at hd
    case h_2 => cases hd
    rename_i cells hk
    split at hd
    case h_2 => cases hd
    rename_i cs hcs
    cases hd
    obtain ⟨b, vs, T', e1, e2, e3, e4⟩ := h.objs _ _ hk
    have hb := h.all_own hk rfl (by rw [e1]; rfl)
    obtain ⟨l1, l2⟩ := allSome_get hcs
    cases hx with | ptr _ _ b' hu hr =>
    rw [e1] at hr
    cases hr
    have key : ∀ (j : Nat) (c : D), cs[j]? = some c → ∃ u, vs[j]? = some u ∧ DR (Den.all m ρ σ.objs w) c u := by
      intro j c hc
      have h1 := l2 j c hc
      simp only [List.getElem?_map, Option.map_eq_some_iff] at h1
      obtain ⟨y, hy, hy2⟩ := h1
      have hj : j < vs.size := by rw [e3]; exact (List.getElem?_eq_some_iff.1 hy).1
      exact ⟨_, Array.getElem?_eq_getElem hj, toDa_ok h (e4 j y _ hy (Array.getElem?_eq_getElem hj)) hy2⟩
    have := DR.ref (m := Den.all m ρ σ.objs w) cs off b 0 vs T' (0, 0) (by rw [hb]; exact e2) (fun j => (vs[j]?).getD undef)
      (fun j c hc => by obtain ⟨u, h1, _⟩ := key j c hc; simp [h1]) (fun j c hc => by obtain ⟨u, h1, h2⟩ := key j c hc; simp [h1]; exact h2)
    simpa using this
  · cases hd
    cases hx with | rp _ _ b o vs T fz hm xs h1 h2 => exact .ref _ _ b o vs T fz (hle _ _ hm) xs h1 (fun j c hc => (h2 j c hc).mono hle)
  · exact toDa_ok h hx hd
theorem toD1_ok (h : Den m fr ρ σ a w) {x : AV} {v : Value} {d : D} (hx : AR m ρ σ.used x v) (hd : toD1 σ.objs x = some d) : DR (Den.all m ρ σ.objs w) d v := by
  unfold toD1 at hd
  split at hd
  · rename_i cs
    split at hd
    case h_2 => cases hd
    rename_i ds hds
    cases hd
    obtain ⟨l1, l2⟩ := allSome_get hds
    cases hx with | agg _ vs hl hh =>
    refine .agg _ _ (by rw [hl, l1]; simp) ?_
    intro i c u hc hu
    have h1 := l2 i c hc
    simp only [List.getElem?_map, Option.map_eq_some_iff] at h1
    obtain ⟨y, hy, hy2⟩ := h1
    exact toD0_ok h (hh i y u hy hu) hy2
  · rename_i f first cap
    split at hd
    case h_2 => cases hd
    rename_i as bs has hbs
    cases hd
    obtain ⟨l1, l2⟩ := allSome_get has
    obtain ⟨k1, k2⟩ := allSome_get hbs
    cases hx with | fn _ _ _ vs ws hl hl' hh hh' =>
    refine .fn _ _ _ vs ws (by rw [hl, l1]; simp) (by rw [hl', k1]; simp) ?_ ?_
    · intro i c u hc hu
      have h1 := l2 i c hc
      simp only [List.getElem?_map, Option.map_eq_some_iff] at h1
      obtain ⟨y, hy, hy2⟩ := h1
      exact toD0_ok h (hh i y u hy hu) hy2
    · intro i c u hc hu
      have h1 := k2 i c hc
      simp only [List.getElem?_map, Option.map_eq_some_iff] at h1
      obtain ⟨y, hy, hy2⟩ := h1
      exact toD0_ok h (hh' i y u hy hu) hy2
  · exact toD0_ok h hx hd

theorem toD_ok (h : Den m fr ρ σ a w) {x : AV} {v : Value} {d : D} (hx : AR m ρ σ.used x v) (hd : toD σ.objs x = some d) : DR (Den.all m ρ σ.objs w) d v := by
  unfold toD at hd
  split at hd
  · rename_i cs
    split at hd
    case h_2 => cases hd
    rename_i ds hds
    cases hd
    obtain ⟨l1, l2⟩ := allSome_get hds
    cases hx with | tup _ vs hl hh =>
    refine .tup _ _ (by rw [hl, l1]; simp) ?_
    intro i c u hc hu
    have h1 := l2 i c hc
    simp only [List.getElem?_map, Option.map_eq_some_iff] at h1
    obtain ⟨y, hy, hy2⟩ := h1
    exact toD1_ok h (hh i y u hy hu) hy2
  · exact toD1_ok h hx hd

theorem DRs_of (h : Den m fr ρ σ a w) {xs : List AV} {vs : List Value} {ds : List D} (hl : vs.length = xs.length) (hx : ∀ (i : Nat) (x : AV) (v : Value), xs[i]? = some x → vs[i]? = some v → AR m ρ σ.used x v) (hd : allSome (xs.map (toD σ.objs)) = some ds) :
    DRs (Den.all m ρ σ.objs w) ds vs := by
  obtain ⟨l1, l2⟩ := allSome_get hd
  refine ⟨by rw [hl, l1]; simp, ?_⟩
  intro i d v h1 h2
  have h3 := l2 i d h1
  simp only [List.getElem?_map, Option.map_eq_some_iff] at h3
  obtain ⟨y, hy, hy2⟩ := h3
  exact toD_ok h (hx i y v hy h2) hy2

/-- The call of a function with data, whose result leads to no memory: our own things may be lent. -/
theorem Den.lend (h : Den m fr ρ σ a w) {w' : World} {m' : Mem} (hle : (Den.all m ρ σ.objs w).le m') (hM : MemOK m' fr w') : Den m fr ρ σ a w' := by
  refine ⟨fun b o hb => hM.mem b o (hle b o (Den.all_le m ρ σ.objs w b o hb)), hM.frame, h.apart, h.one, h.slots, ?_, h.own, h.sep⟩
  intro k o hk
  refine (h.objs k o hk).mono (Mem.le_refl m) (fun _ hu => ⟨hu, rfl⟩) (fun b ho hb => ?_)
  have h1 := h.all_own hk ho hb
  have h2 : b < w.heap.size := (h.objs k o hk).block_lt ho hb
  have h3 := Array.getElem?_eq_getElem h2
  rw [h3] at h1 ⊢
  exact hM.mem b _ (hle b _ h1)

/-- What has to be kept while another function runs: our own things too. -/
noncomputable def Den.hold (fr : Frm) (ρ : Rho) (objs : Objs) (w : World) : Frm := ⟨Den.all fr.at_ ρ objs w, fr.os, fr.out, fr.low⟩
theorem Den.hold_own (h : Den m fr ρ σ a w) {k : Key} {o : Ob} {b : Nat} (hk : σ.objs k = some o) (ho : o.owns = true) (hb : blockOf (ρ k) = some b) : Den.hold fr ρ σ.objs w b = w.heap[b]? := by
  have := (h.own k o b hk ho hb).2
  simp only [Den.hold, Den.all, this]
  rw [if_pos ⟨k, o, hk, ho, hb⟩]
theorem Den.hold_ok (h : Den m fr ρ σ a w) : MemOK m (Den.hold fr ρ σ.objs w) w := by
  refine ⟨h.mem, ⟨?_, ⟨h.frame.quiet.os, h.frame.quiet.out, h.frame.quiet.low, h.frame.quiet.frz⟩⟩, ?_⟩
  · intro b o hb
    unfold Den.hold Den.all at hb
    cases hm : fr b with
    | some x => simp only [hm] at hb; cases hb; exact h.frame.keep b _ hm
    | none =>
      simp only [hm] at hb
      split at hb
      · exact hb
      · cases hb
  · intro b hb
    show Den.all fr.at_ ρ σ.objs w b = none
    unfold Den.all
    rw [h.apart b hb]
    simp only
    rw [if_neg]
    rintro ⟨k, o, h1, h2, h3⟩
    exact hb (h.own k o b h1 h2 h3).1
/-- The call of a function with data; its result is data for ever. -/
theorem Den.kept (h : Den m fr ρ σ a w) {w' : World} {m' : Mem} (hle : m.le m') (hM : MemOK m' (Den.hold fr ρ σ.objs w) w') : Den m' fr ρ σ a w' := by
  have hfr : ∀ b o, fr b = some o → Den.hold fr ρ σ.objs w b = some o := Den.all_le fr.at_ ρ σ.objs w
  have hown : ∀ k o b, σ.objs k = some o → o.owns = true → blockOf (ρ k) = some b → m' b = none := by
    intro k o b hk ho hb
    cases hm : m' b with
    | none => rfl
    | some x =>
      have h1 := hM.apart b (by rw [hm]; simp)
      rw [h.hold_own hk ho hb, Array.getElem?_eq_getElem ((h.objs k o hk).block_lt ho hb)] at h1
      cases h1
  refine ⟨hM.mem, ⟨fun b o hb => hM.frame.keep b o (hfr b o hb), ⟨hM.frame.quiet.os, hM.frame.quiet.out, hM.frame.quiet.low, hM.frame.quiet.frz⟩⟩, ?_, h.one, fun t => (h.slots t).mono hle (fun _ hu => ⟨hu, rfl⟩), ?_, fun k o b h1 h2 h3 => ⟨hown k o b h1 h2 h3, (h.own k o b h1 h2 h3).2⟩, h.sep⟩
  · intro b hb
    have := hM.apart b hb
    cases hf : fr b with
    | none => rfl
    | some x => rw [hfr b x hf] at this; cases this
  · intro k o hk
    refine (h.objs k o hk).mono hle (fun _ hu => ⟨hu, rfl⟩) (fun b ho hb => ?_)
    have h1 := h.hold_own hk ho hb
    have h3 := Array.getElem?_eq_getElem ((h.objs k o hk).block_lt ho hb)
    rw [h3] at h1 ⊢
    exact hM.frame.keep b _ h1
end
end Go.Am
namespace Go.Am
set_option linter.unusedVariables false

/-- A box or a row. -/
def isBox (o : Option Ob) : Prop := (∃ cs, o = some (.box cs)) ∨ ∃ k es, o = some (.row k es)
theorem isBox_box {cs : List AV} : isBox (some (.box cs)) := .inl ⟨_, rfl⟩
theorem isBox_row {k : Nat} {es : List (List D)} : isBox (some (.row k es)) := .inr ⟨_, _, rfl⟩
theorem isBox_none : ¬ isBox none := by rintro (⟨_, h⟩ | ⟨_, _, h⟩) <;> cases h
theorem isBox_dead : ¬ isBox (some .dead) := by rintro (⟨_, h⟩ | ⟨_, _, h⟩) <;> cases h
theorem isBox_map {es : List (Value × D)} : ¬ isBox (some (.map es)) := by rintro (⟨_, h⟩ | ⟨_, _, h⟩) <;> cases h
theorem isBox_some {o : Option Ob} (h : isBox o) : ∃ x, o = some x := by rcases h with ⟨_, h⟩ | ⟨_, _, h⟩ <;> exact ⟨_, h⟩
/-- The boxes and rows that came in under a high name stay where they are. -/
def Keep (σ : St) (ρ : Rho) (σ' : St) (ρ' : Rho) : Prop := ∀ k, 10000 ≤ k → isBox (σ.objs k) → isBox (σ'.objs k) ∧ ρ' k = ρ k
theorem Keep.refl (σ : St) (ρ : Rho) : Keep σ ρ σ ρ := fun _ _ h => ⟨h, rfl⟩
theorem Keep.trans {σ1 σ2 σ3 : St} {ρ1 ρ2 ρ3 : Rho} (h : Keep σ1 ρ1 σ2 ρ2) (h' : Keep σ2 ρ2 σ3 ρ3) : Keep σ1 ρ1 σ3 ρ3 :=
  fun k hk hb => let ⟨a, b⟩ := h k hk hb; let ⟨c, d⟩ := h' k hk a; ⟨c, d.trans b⟩
@[simp] theorem St.put_objs (σ : St) (dst : Option Tmp) (r : AV) : (σ.put dst r).objs = σ.objs := by cases dst <;> rfl

/-- Come to a state of which K holds. -/
def Rch (N : Nat) (m : Mem) (fr : Frm) (ρ : Rho) (σ : St) (K : St → Prop) (a' : Act) (w' : World) : Prop :=
  ∃ σ' m' ρ', K σ' ∧ m.le m' ∧ Den m' fr ρ' σ' a' w' ∧ N ≤ a'.tmps.size ∧ a'.defers = [] ∧ Keep σ ρ σ' ρ'

theorem Den.put {m : Mem} {fr : Frm} {ρ : Rho} {σ : St} {a : Act} {w : World} (h : Den m fr ρ σ a w) {dst : Option Tmp} {r : AV} {v : Value} (hr : AR m ρ σ.used r v) (hd : ∀ d, dst = some d → d < a.tmps.size) :
    Den m fr ρ (σ.put dst r) (a.put dst v) w := by
  cases dst with
  | none => exact h
  | some d =>
    refine ⟨h.mem, h.frame, h.apart, h.one, ?_, h.objs, h.own, h.sep⟩
    intro t
    have hlt := hd d rfl
    by_cases ht : t = d
    · subst ht
      simp only [St.put, upd_same, Act.put]
      have : (a.tmps.setIfInBounds t v).getD t undef = v := by simp [Array.getD, hlt]
      rw [this]; exact hr
    · simp only [St.put, upd_ne _ _ ht, Act.put]
      have : (a.tmps.setIfInBounds d v).getD t undef = a.tmps.getD t undef := by
        rw [Array.getD_eq_getD_getElem?, Array.getD_eq_getD_getElem?, Array.getElem?_setIfInBounds, if_neg (Ne.symm ht)]
      rw [this]; exact h.slots t

theorem upd_box {objs : Objs} {k : Key} {o : Ob} (h : isBox (objs k) → isBox (some o)) : ∀ j, isBox (objs j) → isBox (upd objs k (some o) j) := by
  intro j hj
  by_cases hjk : j = k
  · subst hjk; rw [upd_same]; exact h hj
  · rw [upd_ne _ _ hjk]; exact hj
/-- No operation takes a box away, or a row of a high name. -/
theorem effOp0_box {T : TT} {ev : Operand → AV} {objs : Objs} {d : Key} {o : Op} {r : AV} {ups : List (Key × Ob)} (h : effOp0 T ev objs d o = some (r, ups)) : ∀ j, 10000 ≤ j → isBox (objs j) → isBox (updO objs ups j) := by
  have new : ∀ {o : Ob}, objs d = none → ∀ j, 10000 ≤ j → isBox (objs j) → isBox (updO objs [(d, o)] j) := by
    intro o hd j _
    exact upd_box (fun h => by rw [hd] at h; exact absurd h isBox_none) j
  have same : ∀ {k : Key} {o0 o : Ob}, objs k = some o0 → (isBox (some o0) → isBox (some o)) → ∀ j, 10000 ≤ j → isBox (objs j) → isBox (updO objs [(k, o)] j) := by
    intro k o0 o hk hne j _
    exact upd_box (fun h => by rw [hk] at h; exact hne h) j
  cases o <;> simp only [effOp0, reduceCtorEq] at h
  case alloc => split at h <;> cases h; exact new (by assumption)
  case box => split at h <;> cases h; exact new (by assumption)
  case buildSlice =>
    split at h
    case h_2 => cases h
    split at h
    case h_2 => cases h
    split at h
    case h_2 => cases h
    split at h <;> cases h
    exact new (by assumption)
  case makeSlice =>
    split at h
    case h_2 => cases h
    split at h
    case h_2 => cases h
    split at h
    case h_2 => cases h
    split at h <;> cases h
    exact new (by assumption)
  case makeMap => split at h <;> cases h; exact new (by assumption)
  case store =>
    split at h
    case h_2 => cases h
    split at h
    case isFalse => cases h
    split at h
    · split at h
      case h_2 => cases h
      split at h <;> cases h
      exact fun j _ => upd_box (fun _ => isBox_box) j
    · split at h
      case h_2 => cases h
      split at h
      case isFalse => cases h
      split at h <;> cases h
      exact same (by assumption) (fun _ => isBox_row)
    · cases h
  case mapUpdate =>
    split at h
    case h_2 => cases h
    split at h
    case h_2 => cases h
    split at h
    case isFalse => cases h
    split at h
    case h_2 => cases h
    split at h
    case h_2 => cases h
    split at h <;> cases h
    exact same (by assumption) (fun h => absurd h isBox_map)
  case insert =>
    split at h
    case h_2 => cases h
    split at h
    case h_2 => cases h
    split at h
    case isFalse => cases h
    split at h
    case h_2 => cases h
    split at h
    case h_2 => cases h
    split at h <;> cases h
    exact same (by assumption) (fun h => absurd h isBox_map)
  case call =>
    split at h
    · split at h
      case h_2 => cases h
      split at h
      case h_2 => cases h
      split at h
      case h_2 => cases h
      split at h
      case h_2 => cases h
      split at h
      case isFalse => cases h
      split at h
      · split at h <;> cases h
        exact new (by assumption)
      · split at h
        case h_2 => cases h
        split at h <;> cases h
        rename_i hd _ _ _ _ _ _ _ _ _ _ _ _ hk _ _
        rename_i hcc
        intro j hjl hj
        have hjd : j ≠ d := by rintro rfl; simp_all [isBox_none]
        simp only [updO]
        rw [upd_ne _ _ hjd, upd_ne _ _ (by rintro rfl; exact absurd hcc.2.2.2 (Nat.not_lt.2 hjl))]
        exact hj
      · cases h
    · split at h
      case h_2 => cases h
      split at h
      case h_2 => cases h
      split at h
      case h_2 => cases h
      split at h
      case h_2 => cases h
      split at h
      case isFalse => cases h
      split at h
      · split at h
        case h_2 => cases h
        split at h <;> cases h
        exact same (by assumption) (fun _ => isBox_row)
      · split at h
        case h_2 => cases h
        split at h <;> cases h
        exact same (by assumption) (fun _ => isBox_row)
      · cases h
    · split at h
      case h_2 => cases h
      split at h
      case h_2 => cases h
      split at h
      case h_2 => cases h
      split at h
      case h_2 => cases h
      split at h
      case h_2 => cases h
      split at h <;> cases h
      exact same (by assumption) (fun _ => isBox_row)
    · cases h

theorem effOp0_new {T : TT} {ev : Operand → AV} {objs : Objs} {d : Key} {o : Op} {k : Key} {off : Nat} {ups : List (Key × Ob)} (h : effOp0 T ev objs d o = some (.ptr k off, ups)) : objs d = none := by
  cases o <;> simp only [effOp0, reduceCtorEq] at h
  case alloc => split at h <;> cases h; assumption
  case box => split at h <;> cases h; assumption
  all_goals (repeat' split at h) <;> cases h
theorem effOp0_newr {T : TT} {ev : Operand → AV} {objs : Objs} {d : Key} {o : Op} {ups : List (Key × Ob)} (h : effOp0 T ev objs d o = some (.row d, ups)) : objs d = none := by
  cases o <;> simp only [effOp0, reduceCtorEq] at h
  all_goals (repeat' split at h) <;> cases h <;> assumption
theorem effOp_box {T : TT} {ev : Operand → AV} {objs : Objs} {d : Key} {o : Op} {r : AV} {ups : List (Key × Ob)} (h : effOp T ev objs d o = some (r, ups)) : ∀ j, 10000 ≤ j → isBox (objs j) → isBox (updO objs ups j) := by
  obtain ⟨⟨r0, ups0⟩, h0, hb⟩ := effOp_some h
  have h1 := effOp0_box h0
  intro j hjl hj
  have hn : ∀ {o : Ob}, objs d = none → j ≠ d := by rintro o hd rfl; rw [hd] at hj; exact isBox_none hj
  rcases bornR_cases (T.born d) d r0 ups0 with e | ⟨n, es, rfl, rfl, e⟩ | ⟨j', n, es, rfl, rfl, e⟩ | ⟨off, cs, ds, rfl, rfl, hds, e⟩
  · rw [hb] at e; cases e; exact h1 j hjl hj
  · rw [hb] at e; cases e
    have hd := hn (o := .dead) (effOp0_newr h0)
    have := h1 j hjl hj
    simp only [updO, upd_ne _ _ hd] at this ⊢
    exact this
  · rw [hb] at e; cases e
    have hd := hn (o := .dead) (effOp0_newr h0)
    have := h1 j hjl hj
    simp only [updO, upd_ne _ _ hd] at this ⊢
    exact this
  · rw [hb] at e; cases e
    have hd := hn (o := .dead) (effOp0_new h0)
    simp only [updO, upd_ne _ _ hd]; exact hj

section
variable {P : Program} {T : TT} {G : Gl} {m : Mem} {fr : Frm} {ρ : Rho} {σ : St} {a : Act} {w : World} {N : Nat}

/-- One step. -/
theorem stepA_ok (hT : TOk P T) (hG : GOk G m) (h : Den m fr ρ σ a w) (hN : N ≤ a.tmps.size) (hdf : a.defers = []) {o : Oper} (hdst : ∀ d, o.dst = some d → d < N) {σ' : St} (hs : stepA T G σ o = some σ') {K : St → Prop} (hK : K σ') {Q : Exit → Act → World → Prop} :
    o.wp P a w (Rch N m fr ρ σ K) Q := by
  have hev := evA_ok (a := a) hG h.slots
  have hd' : ∀ d, o.dst = some d → d < a.tmps.size := fun d hd => Nat.lt_of_lt_of_le (hdst d hd) hN
  have hput : ∀ v, N ≤ (a.put o.dst v).tmps.size := by intro v; cases o.dst <;> simpa [Act.put] using hN
  have hdp : ∀ v, (a.put o.dst v).defers = [] := by intro v; cases o.dst <;> exact hdf
  unfold Oper.wp
  unfold stepA at hs
  split at hs
  · rename_i r hr
    cases hs
    obtain ⟨v, h1, h2⟩ := pureOp_ok (P := P) (w := w) (o := o) hT h.one hev hr
    rw [h1]
    exact ⟨_, m, ρ, hK, Mem.le_refl m, h.put h2 hd', hput v, hdp v, fun k hk hb => ⟨by simpa using hb, rfl⟩⟩
  · split at hs
    · rename_i r hr
      cases hs
      obtain ⟨v, h1, h2⟩ := memOp_ok (P := P) (w := w) (o := o) hT h.mem h.objs hev hr
      rw [h1]
      exact ⟨_, m, ρ, hK, Mem.le_refl m, h.put h2 hd', hput v, hdp v, fun k hk hb => ⟨by simpa using hb, rfl⟩⟩
    · split at hs
      case h_2 => cases hs
      rename_i r ups hr
      cases hs
      obtain ⟨nx, v, w', m', ρ', h1, h2, hm, h3, h4, h5⟩ := effOp_ok (P := P) (o := o) hT h hev hr
      rw [h1]
      have fin : Rch N m fr ρ σ K (a.put o.dst v) w' :=
        ⟨_, m', ρ', hK, hm, h3.put h4 hd', hput v, hdp v, fun k hk hb => ⟨by rw [St.put_objs]; exact effOp_box hr k hk hb, by obtain ⟨c, hc⟩ := isBox_some hb; exact (h5 k ⟨_, hc⟩).2⟩⟩
      rcases h2 with rfl | ⟨rfl, rfl⟩
      · exact fin
      · exact fin

/-! ### Calls -/
/-- The function that a value calls, and the arguments that it brings. -/
def calleeA : AV → Option (FuncId × List AV × List AV)
  | .d (.val (.func (.func f) first cap)) => if first.size = 0 ∧ cap.size = 0 then some (f, [], []) else none
  | .fn (.func f) first cap => some (f, first, cap)
  | .d (.fn (.func f) first cap) => some (f, first.map .d, cap.map .d)
  | _ => none

/-- Nothing of our own in it. -/
def isDA0 : AV → Bool
  | .d _ => true
  | .rp _ _ => true
  | _ => false
def isDA : AV → Bool
  | .agg cs => cs.all isDA0
  | .fn _ as bs => as.all isDA0 && bs.all isDA0
  | x => isDA0 x
theorem isDA0_ok {m : Mem} {ρ : Rho} {U : Key → Prop} {objs : Objs} {x : AV} {d : D} {v : Value} (h : isDA0 x = true) (hd : toD0 objs x = some d) (hv : AR m ρ U x v) : DR m d v := by
  cases x <;> first | cases h | skip
  · simp only [toD0, toDa] at hd; cases hd; exact hv.inv_d
  · simp only [toD0] at hd; cases hd
    cases hv with | rp _ _ b o vs T fz hm xs h1 h2 => exact .ref _ _ b o vs T fz hm xs h1 h2
theorem isDA0s_ok {m : Mem} {ρ : Rho} {U : Key → Prop} {objs : Objs} {cs : List AV} {ds : List D} {vs : Array Value} (h : cs.all isDA0 = true) (hd : allSome (cs.map (toD0 objs)) = some ds) (hl : vs.size = cs.length)
    (hv : ∀ (i : Nat) (c : AV) (v : Value), cs[i]? = some c → vs[i]? = some v → AR m ρ U c v) : vs.size = ds.length ∧ ∀ (i : Nat) (c : D) (v : Value), ds[i]? = some c → vs[i]? = some v → DR m c v := by
  obtain ⟨h1, h2⟩ := allSome_get hd
  refine ⟨by rw [h1, hl]; simp, fun i c v hc hi => ?_⟩
  have h3 := h2 i c hc
  simp only [List.getElem?_map, Option.map_eq_some_iff] at h3
  obtain ⟨y, hy, hyc⟩ := h3
  exact isDA0_ok (List.all_eq_true.1 h y (List.mem_of_getElem? hy)) hyc (hv i y v hy hi)
theorem isDA_ok {m : Mem} {ρ : Rho} {U : Key → Prop} {objs : Objs} {x : AV} {d : D} {v : Value} (h : isDA x = true) (hd : toD objs x = some d) (hv : AR m ρ U x v) : DR m d v := by
  cases x
  case agg cs =>
    simp only [toD, toD1] at hd
    split at hd
    case h_2 => cases hd
    rename_i ds hds
    cases hd
    cases hv with | agg _ vs hl hh =>
    obtain ⟨g1, g2⟩ := isDA0s_ok h hds hl hh
    exact .agg _ _ g1 g2
  case fn f as bs =>
    simp only [isDA, Bool.and_eq_true] at h
    simp only [toD, toD1] at hd
    split at hd
    case h_2 => cases hd
    rename_i ds ds' hds hds'
    cases hd
    cases hv with | fn _ _ _ vs ws hl hl' hh hh' =>
    obtain ⟨g1, g2⟩ := isDA0s_ok h.1 hds hl hh
    obtain ⟨g3, g4⟩ := isDA0s_ok h.2 hds' hl' hh'
    exact .fn _ _ _ _ _ g1 g3 g2 g4
  case d y => exact isDA0_ok (x := .d y) rfl (by simpa [toD, toD1] using hd) hv
  case rp cs off => exact isDA0_ok (x := .rp cs off) rfl (by simpa [toD, toD1] using hd) hv
  all_goals cases h
/-- A call of a function with data alone. -/
def vPure (P : Program) (G : Gl) (σ : St) (dst : Option Tmp) (f : FuncId) (avs : List AV) (K : St → Prop) : Prop :=
  ∃ ds0 ds R, allSome (avs.map (toD σ.objs)) = some ds0 ∧ LeAll ds0 ds ∧ PCalls P G f ds R ∧ (∃ r0, R = (· = r0)) ∧ ((∀ r, R r → r.flat = true) ∨ avs.all isDA = true) ∧ ∀ r, R r → K (σ.put dst (.d r))

def vCall (P : Program) (G : Gl) (o : Oper) (σ : St) (K : St → Prop) : Prop :=
  match o.op with
  | .call ⟨.value x, args, _⟩ => match calleeA (evA G σ.slots x) with
    | some (f, pre, post) => vPure P G σ o.dst f (pre ++ args.toList.map (evA G σ.slots) ++ post) K
    | none => False
  | _ => False

def vDo (P : Program) (T : TT) (G : Gl) (o : Oper) (K : St → Prop) (σ : St) : Prop :=
  match stepA T G σ o with
  | some σ' => K σ'
  | none => vCall P G o σ K

/-- One operation, if it is wanted. -/
def vOp (P : Program) (T : TT) (G : Gl) (all : Array Oper) (o : Oper) (K : St → Prop) (σ : St) : Prop :=
  match o.guard with
  | none => vDo P T G o K σ
  | some (j, want) => match (all[j]?).bind (·.dst) with
    | some d => match σ.slots d with
      | .d (.val (.bool b)) => if b = want then vDo P T G o K σ else K (σ.put o.dst (.d (.val (.tuple #[]))))
      | .d (.val (.tuple _)) => K (σ.put o.dst (.d (.val (.tuple #[]))))
      | _ => False
    | none => False

def vOps (P : Program) (T : TT) (G : Gl) (all : Array Oper) : List Oper → (St → Prop) → St → Prop
  | [], K, σ => K σ
  | o :: r, K, σ => vOp P T G all o (vOps P T G all r K) σ

theorem run_call_enter {va : Operand → Value} {x : Operand} {args : Array Operand} {tys : Array TypeId} {ty : TypeId} {f : FuncId} {first cap : Array Value} (hx : va x = .func (.func f) first cap) (hf : FnOk P f) :
    (do let d ← resolve va { callee := .value x, args := args, argTypes := tys } ty; invoke d.target d.args : Sem Next).run P w = .ok (.enter f (first ++ args.map va ++ cap)) w := by
  obtain ⟨fn, h1, h2, h3⟩ := hf
  simp only [Sem.run_bind, resolve, hx, Deferred.ofValue, Sem.run_pure, Result.andThen_ok, invoke, callFunc, program, Sem.run, h1, h2, h3, Bool.false_eq_true, if_false]

theorem vCall_ok (hG : GOk G m) (h : Den m fr ρ σ a w) (hN : N ≤ a.tmps.size) (hdf : a.defers = []) {o : Oper} (hdst : ∀ d, o.dst = some d → d < N) {K : St → Prop} (hc : vCall P G o σ K) {Q : Exit → Act → World → Prop} :
    o.wp P a w (Rch N m fr ρ σ K) Q := by
  have hev := evA_ok (a := a) hG h.slots
  have hd' : ∀ d, o.dst = some d → d < a.tmps.size := fun d hd => Nat.lt_of_lt_of_le (hdst d hd) hN
  have hput : ∀ v, N ≤ (a.put o.dst v).tmps.size := by intro v; cases o.dst <;> simpa [Act.put] using hN
  have hdp : ∀ v, (a.put o.dst v).defers = [] := by intro v; cases o.dst <;> exact hdf
  unfold vCall at hc
  split at hc
  case h_2 => cases hc
  rename_i x args tys hop
  split at hc
  case h_2 => cases hc
  rename_i f pre post hcal
  obtain ⟨ds0, ds, R, h1, h2, h3, h4, h5, h6⟩ := hc
  have hx := hev x
  -- the callee
  have hcallee : ∃ first cap, a.eval x = .func (.func f) first cap ∧ first.size = pre.length ∧ cap.size = post.length ∧
      (∀ (i : Nat) (c : AV) (v : Value), pre[i]? = some c → first[i]? = some v → AR m ρ σ.used c v) ∧ (∀ (i : Nat) (c : AV) (v : Value), post[i]? = some c → cap[i]? = some v → AR m ρ σ.used c v) := by
    unfold calleeA at hcal
    split at hcal
    · rename_i f' first cap he
      split at hcal
      case isFalse => cases hcal
      rename_i h0
      cases hcal
      rw [he] at hx
      exact ⟨first, cap, hx.inv_val, by simpa using h0.1, by simpa using h0.2, by intro i c v hc; simp at hc, by intro i c v hc; simp at hc⟩
    · rename_i f' first cap he
      cases hcal
      rw [he] at hx
      generalize a.eval x = u at hx
      cases hx with | fn _ _ _ vs ws hl hl' g g' => exact ⟨vs, ws, rfl, hl, hl', g, g'⟩
    · rename_i f' first cap he
      cases hcal
      rw [he] at hx
      have hx := hx.inv_d
      generalize a.eval x = u at hx
      cases hx with | fn _ _ _ vs ws hl hl' g g' =>
      refine ⟨vs, ws, rfl, by simpa using hl, by simpa using hl', ?_, ?_⟩
      · intro i c v hc hv
        simp only [List.getElem?_map, Option.map_eq_some_iff] at hc
        obtain ⟨y, hy, rfl⟩ := hc
        exact .d _ _ (g i y v hy hv)
      · intro i c v hc hv
        simp only [List.getElem?_map, Option.map_eq_some_iff] at hc
        obtain ⟨y, hy, rfl⟩ := hc
        exact .d _ _ (g' i y v hy hv)
    · cases hcal
  obtain ⟨first, cap, hcv, hl1, hl2, g1, g2⟩ := hcallee
  have hall : ∀ (i : Nat) (c : AV) (v : Value), (pre ++ args.toList.map (evA G σ.slots) ++ post)[i]? = some c → (first ++ args.map a.eval ++ cap).toList[i]? = some v → AR m ρ σ.used c v := by
    intro i c v hc hv
    simp only [Array.toList_append, Array.toList_map] at hv
    have e1 : first.toList.length = pre.length := by simpa using hl1
    by_cases h1 : i < pre.length
    · rw [List.append_assoc, List.getElem?_append_left h1] at hc
      rw [List.append_assoc, List.getElem?_append_left (by omega)] at hv
      exact g1 i c v hc (by simpa using hv)
    · by_cases h2 : i < pre.length + args.size
      · rw [List.getElem?_append_left (by simp; omega), List.getElem?_append_right (by omega)] at hc
        rw [List.getElem?_append_left (by simp; omega), List.getElem?_append_right (by omega), e1] at hv
        simp only [List.getElem?_map, Option.map_eq_some_iff] at hc hv
        obtain ⟨p, hp, rfl⟩ := hc
        obtain ⟨q, hq, rfl⟩ := hv
        rw [hp] at hq; cases hq
        exact hev _
      · rw [List.getElem?_append_right (by simp; omega)] at hc
        rw [List.getElem?_append_right (by simp; omega)] at hv
        refine g2 _ c v hc ?_
        rw [← hv]
        simp only [List.length_append, List.length_map, Array.length_toList, hl1]
        simp
  have hlen : (first ++ args.map a.eval ++ cap).toList.length = (pre ++ args.toList.map (evA G σ.slots) ++ post).length := by simp [hl1, hl2]
  have henter : (execOp a.eval o).run P w = .ok (.enter f (first ++ args.map a.eval ++ cap)) w := by
    unfold execOp
    rw [hop]
    exact run_call_enter hcv h3.fn
  unfold Oper.wp
  rw [henter]
  rcases h5 with h5 | h5
  · -- lent
    have hD := LeAll.ok h2 (DRs_of h hlen hall h1)
    have hcall := h3.run _ fr w _ (hG.mono (Den.all_le m ρ σ.objs w)) h.all_ok hD
    simp only [Array.toArray_toList] at hcall
    refine hcall.mono fun e w' he => ?_
    obtain ⟨v, m', r, rfl, q1, q2, q3, q4⟩ := he
    have hL := h.lend q2 q3
    exact ⟨_, m, ρ, h6 r q1, Mem.le_refl m, hL.put (.d _ _ (D.flat_ok (h5 r q1) q4)) hd', hput v, hdp v, fun k hk hb => ⟨by simpa using hb, rfl⟩⟩
  · have hD0 : DRs m ds0 (first ++ args.map a.eval ++ cap).toList := by
      obtain ⟨g1, g2⟩ := allSome_get h1
      refine ⟨by rw [hlen, g1]; simp, ?_⟩
      intro i d v hd hv
      have g3 := g2 i d hd
      rw [List.getElem?_map, Option.map_eq_some_iff] at g3
      obtain ⟨y, hy, hyd⟩ := g3
      exact isDA_ok (List.all_eq_true.1 h5 y (List.mem_of_getElem? hy)) hyd (hall i y v hy hv)
    have hcall := h3.run m _ w _ hG h.hold_ok (LeAll.ok h2 hD0)
    simp only [Array.toArray_toList] at hcall
    refine hcall.mono fun e w' he => ?_
    obtain ⟨v, m', r, rfl, q1, q2, q3, q4⟩ := he
    have hL := h.kept q2 q3
    exact ⟨_, m', ρ, h6 r q1, q2, hL.put (.d _ _ q4) hd', hput v, hdp v, fun k hk hb => ⟨by simpa using hb, rfl⟩⟩

theorem vDo_ok (hT : TOk P T) (hG : GOk G m) (h : Den m fr ρ σ a w) (hN : N ≤ a.tmps.size) (hdf : a.defers = []) {o : Oper} (hdst : ∀ d, o.dst = some d → d < N) {K : St → Prop} (hc : vDo P T G o K σ) {Q : Exit → Act → World → Prop} :
    o.wp P a w (Rch N m fr ρ σ K) Q := by
  unfold vDo at hc
  split at hc
  · exact stepA_ok hT hG h hN hdf hdst (by assumption) hc
  · exact vCall_ok hG h hN hdf hdst hc

theorem vOp_ok (hT : TOk P T) (hG : GOk G m) (h : Den m fr ρ σ a w) (hN : N ≤ a.tmps.size) (hdf : a.defers = []) {all : Array Oper} {i : Nat} {o : Oper} (hi : all[i]? = some o) (hdst : ∀ d, o.dst = some d → d < N) {K : St → Prop} (hc : vOp P T G all o K σ)
    {Q : Exit → Act → World → Prop} : wpOp P all Q i (Rch N m fr ρ σ K) a w := by
  have hd' : ∀ d, o.dst = some d → d < a.tmps.size := fun d hd => Nat.lt_of_lt_of_le (hdst d hd) hN
  unfold wpOp
  simp only [hi]
  unfold vOp at hc
  split at hc
  · rename_i hg
    have : Region.wanted o (yielded all a.tmps) = true := by simp [Region.wanted, hg]
    rw [if_pos this]
    exact .inl (vDo_ok hT hG h hN hdf hdst hc)
  · rename_i j want hg
    split at hc
    case h_2 => cases hc
    rename_i d hd
    have hgo : ∀ v, a.tmps.getD d undef = v → yielded all a.tmps j = (match v with | .bool b => some b | _ => none) := by
      intro v hv
      unfold yielded
      rw [hd]
      simp only [Option.bind_some]
      rw [Array.getD_eq_getD_getElem?] at hv
      cases hlt : a.tmps[d]? with
      | none =>
        rw [hlt] at hv
        simp only [Option.getD_none] at hv
        subst hv
        rfl
      | some u =>
        rw [hlt] at hv
        simp only [Option.getD_some] at hv
        subst hv
        cases u <;> rfl
    have skip : Region.wanted o (yielded all a.tmps) = false → K (σ.put o.dst (.d (.val (.tuple #[])))) → Rch N m fr ρ σ K (a.put o.dst undef) w := fun _ hk =>
      ⟨_, m, ρ, hk, Mem.le_refl m, h.put (.d _ _ (.val _)) hd', by cases o.dst <;> simpa [Act.put] using hN, by cases o.dst <;> exact hdf, fun k hk hb => ⟨by simpa using hb, rfl⟩⟩
    split at hc
    · rename_i b hs
      have hv := h.slots d
      rw [hs] at hv
      have hy := hgo _ hv.inv_val
      simp only at hy
      have hw : Region.wanted o (yielded all a.tmps) = (b == want) := by
        simp only [Region.wanted, hg, hy]
        cases b <;> cases want <;> rfl
      by_cases hb : b = want
      · rw [if_pos hb] at hc
        rw [hw, if_pos (by simpa using hb)]
        exact .inl (vDo_ok hT hG h hN hdf hdst hc)
      · rw [if_neg hb] at hc
        have hf : Region.wanted o (yielded all a.tmps) = false := by rw [hw]; simpa using hb
        rw [if_neg (by rw [hf]; simp)]
        exact skip hf hc
    · rename_i vs hs
      have hv := h.slots d
      rw [hs] at hv
      have hy := hgo _ hv.inv_val
      simp only at hy
      have hf : Region.wanted o (yielded all a.tmps) = false := by
        simp only [Region.wanted, hg, hy]; rfl
      rw [if_neg (by rw [hf]; simp)]
      exact skip hf hc
    · cases hc

theorem wpOp_mono {ops : Array Oper} {Q : Exit → Act → World → Prop} {i : Nat} {K K' : Act → World → Prop} (hk : ∀ a w, K a w → K' a w) {a : Act} {w : World} (h : wpOp P ops Q i K a w) : wpOp P ops Q i K' a w := by
  unfold wpOp at *
  split
  · rename_i e; simp only [e] at h; exact hk _ _ h
  · rename_i o e
    simp only [e] at h
    split
    · rename_i hw
      rw [if_pos hw] at h
      rcases h with h | h
      · refine .inl ?_
        unfold Oper.wp at *
        generalize (execOp a.eval o).run P w = r at *
        cases r with
        | ok n w' =>
          cases n <;> simp only [Oper.upon] at h ⊢ <;> first | exact hk _ _ h | exact h | skip
          · refine h.mono fun e w'' he => ?_
            cases e with
            | returned v => exact hk _ _ he
            | panicked c => exact he
            | outgrown => exact he
          · exact h.mono fun v w'' he => hk _ _ he
        | halt x w' => cases x <;> exact h
      · exact .inr h
    · rename_i hw
      rw [if_neg hw] at h
      exact hk _ _ h

end
end Go.Am
namespace Go.Am
set_option linter.unusedVariables false

/-! ### What an operation depends on -/
theorem map_ev {ev ev' : Operand → AV} {l : List Operand} (h : ∀ x ∈ l, ev x = ev' x) : l.map ev = l.map ev' := List.map_congr_left h
theorem parts_ev {ev ev' : Operand → AV} {ps : Array (Nat × Operand)} (h : ∀ x ∈ (ps.toList.map (·.2)), ev x = ev' x) : (ps.toList.map fun p => (p.1, ev p.2)) = ps.toList.map fun p => (p.1, ev' p.2) :=
  List.map_congr_left fun p hp => by rw [h p.2 (List.mem_map.2 ⟨p, hp, rfl⟩)]

theorem pureOp_congr {T : TT} {ev ev' : Operand → AV} {op : Op} (h : ∀ x ∈ op.operands.toList, ev x = ev' x) : pureOp T ev op = pureOp T ev' op := by
  cases op <;> simp only [pureOp]
  case move x => rw [h x (by simp [Op.operands])]
  case assign x => rw [h x (by simp [Op.operands])]
  case pick c a b => rw [h c (by simp [Op.operands]), h a (by simp [Op.operands]), h b (by simp [Op.operands])]
  case binOp op t x y yt => rw [h x (by simp [Op.operands]), h y (by simp [Op.operands])]
  case unOp op t x => rw [h x (by simp [Op.operands])]
  case convert s t x => rw [h x (by simp [Op.operands])]
  case fieldAddr s x f => rw [h x (by simp [Op.operands])]
  case field s x f => rw [h x (by simp [Op.operands])]
  case extract x i => rw [h x (by simp [Op.operands])]
  case build t parts => rw [parts_ev (by simpa [Op.operands] using h)]
  case index t x i => rw [h x (by simp [Op.operands]), h i (by simp [Op.operands])]
  case makeFunc f first cap =>
    rw [map_ev (l := first.toList) (fun x hx => h x (by simp [Op.operands] at hx ⊢; exact .inl hx)), map_ev (l := cap.toList) (fun x hx => h x (by simp [Op.operands] at hx ⊢; exact .inr hx))]
  case makeInterface t x => rw [h x (by simp [Op.operands])]
  case nilCheck x => rw [h x (by simp [Op.operands])]
  case slice t x lo hi mx =>
    cases mx with
    | some _ => rfl
    | none =>
      simp only [pureOp]
      have e1 : lo.map ev = lo.map ev' := by cases lo with | none => rfl | some l => simp only [Option.map_some]; rw [h l (by simp [Op.operands])]
      have e2 : hi.map ev = hi.map ev' := by cases hi with | none => rfl | some l => simp only [Option.map_some]; rw [h l (by simp [Op.operands])]
      rw [h x (by simp [Op.operands]), e1, e2]
  case call c =>
    obtain ⟨callee, args, tys⟩ := c
    simp only
    have e : args.toList.map ev = args.toList.map ev' := map_ev fun x hx => h x (by simp [Op.operands, Call.operands] at hx ⊢; exact .inr hx)
    rw [e]

theorem memOp_congr {T : TT} {ev ev' : Operand → AV} {objs : Objs} {op : Op} (h : ∀ x ∈ op.operands.toList, ev x = ev' x) : memOp T ev objs op = memOp T ev' objs op := by
  cases op <;> simp only [memOp]
  case load t a => rw [h a (by simp [Op.operands])]
  case indexAddr t x ix => rw [h x (by simp [Op.operands]), h ix (by simp [Op.operands])]
  case slice t x lo hi mx =>
    cases mx with
    | some _ => rfl
    | none =>
      simp only [memOp]
      have e1 : lo.map ev = lo.map ev' := by cases lo with | none => rfl | some l => simp only [Option.map_some]; rw [h l (by simp [Op.operands])]
      have e2 : hi.map ev = hi.map ev' := by cases hi with | none => rfl | some l => simp only [Option.map_some]; rw [h l (by simp [Op.operands])]
      rw [h x (by simp [Op.operands]), e1, e2]
  case call c =>
    obtain ⟨callee, args, tys⟩ := c
    simp only
    split
    · split
      · rename_i t x eT eA
        have ha : args = #[x] := by apply Array.ext'; simpa using eA
        have e : ev x = ev' x := h x (by simp [Op.operands, Call.operands, ha])
        rw [e]
      · rfl
    · rfl
  case lookup t x k ok => rw [h x (by simp [Op.operands]), h k (by simp [Op.operands])]
  case binOp op t x y yt => rw [h x (by simp [Op.operands]), h y (by simp [Op.operands])]

theorem effOp0_congr {T : TT} {ev ev' : Operand → AV} {objs : Objs} {d : Key} {op : Op} (h : ∀ x ∈ op.operands.toList, ev x = ev' x) : effOp0 T ev objs d op = effOp0 T ev' objs d op := by
  cases op <;> simp only [effOp0]
  case box t x => rw [h x (by simp [Op.operands])]
  case buildSlice t n parts => rw [parts_ev (by simpa [Op.operands] using h)]
  case makeSlice t l c => rw [h l (by simp [Op.operands]), h c (by simp [Op.operands])]
  case store t a x => rw [h a (by simp [Op.operands]), h x (by simp [Op.operands])]
  case mapUpdate t m k x => rw [h m (by simp [Op.operands]), h k (by simp [Op.operands]), h x (by simp [Op.operands])]
  case insert t m k x => rw [h m (by simp [Op.operands]), h k (by simp [Op.operands]), h x (by simp [Op.operands])]
  case call c =>
    obtain ⟨callee, args, tys⟩ := c
    simp only
    split
    · split
      · rename_i t t' s x eT eA
        have ha : args = #[s, x] := by apply Array.ext'; simpa using eA
        have e1 : ev s = ev' s := h s (by simp [Op.operands, Call.operands, ha])
        have e2 : ev x = ev' x := h x (by simp [Op.operands, Call.operands, ha])
        rw [e1, e2]
      · rfl
    · split
      · rename_i t t' s x eT eA
        have ha : args = #[s, x] := by apply Array.ext'; simpa using eA
        have e1 : ev s = ev' s := h s (by simp [Op.operands, Call.operands, ha])
        have e2 : ev x = ev' x := h x (by simp [Op.operands, Call.operands, ha])
        rw [e1, e2]
      · rfl
    · split
      · rename_i t s eT eA
        have ha : args = #[s] := by apply Array.ext'; simpa using eA
        rw [h s (by simp [Op.operands, Call.operands, ha])]
      · rfl
    · rfl

theorem effOp_congr {T : TT} {ev ev' : Operand → AV} {objs : Objs} {d : Key} {op : Op} (h : ∀ x ∈ op.operands.toList, ev x = ev' x) : effOp T ev objs d op = effOp T ev' objs d op := by
  unfold effOp; rw [effOp0_congr h]

/-! ### Kinds of operations -/
def opP : Op → Bool
  | .move _ | .assign _ | .pick .. | .unOp .. | .convert .. | .fieldAddr .. | .field .. | .extract .. | .build .. | .index .. | .makeFunc .. | .makeInterface .. | .nilCheck _ => true
  | _ => false
def opM : Op → Bool
  | .load .. | .indexAddr .. | .slice .. | .lookup .. | .binOp .. => true
  | .call ⟨.builtin b, _, _⟩ => match b with
    | .len | .max | .min => true
    | _ => false
  | _ => false
def opC : Op → Bool
  | .call ⟨.value _, _, _⟩ => true
  | _ => false
/-- Makes a new thing and looks at none. -/
def opA : Op → Bool
  | .alloc _ | .box .. | .buildSlice .. => true
  | _ => false

theorem opP_spec {T : TT} {ev : Operand → AV} {objs : Objs} {d : Key} {op : Op} (h : opP op = true) : memOp T ev objs op = none ∧ effOp T ev objs d op = none := by
  cases op <;> first | exact ⟨rfl, rfl⟩ | cases h
theorem opM_spec {T : TT} {ev : Operand → AV} {objs : Objs} {d : Key} {op : Op} (h : opM op = true) : effOp T ev objs d op = none := by
  cases op
  case call c =>
    obtain ⟨callee, args, tys⟩ := c
    cases callee with
    | value => cases h
    | invoke => cases h
    | builtin b => cases b <;> first | rfl | cases h
  all_goals first | rfl | cases h
theorem opC_spec {T : TT} {ev : Operand → AV} {objs : Objs} {d : Key} {op : Op} (h : opC op = true) : pureOp T ev op = none ∧ memOp T ev objs op = none ∧ effOp T ev objs d op = none := by
  cases op
  case call c =>
    obtain ⟨callee, args, tys⟩ := c
    cases callee with
    | value => exact ⟨rfl, rfl, rfl⟩
    | invoke => cases h
    | builtin b => cases h
  all_goals cases h
theorem opA_spec {T : TT} {ev : Operand → AV} {objs : Objs} {op : Op} (h : opA op = true) : pureOp T ev op = none ∧ memOp T ev objs op = none := by
  cases op <;> first | exact ⟨rfl, rfl⟩ | cases h

/-- An operation that makes a new thing looks at no other. -/
theorem opA0_eff {T : TT} {ev : Operand → AV} {objs objs' : Objs} {d : Key} {op : Op} (h : opA op = true) (h0 : objs' d = none) {r : AV} {ups : List (Key × Ob)} (he : effOp0 T ev objs d op = some (r, ups)) :
    effOp0 T ev objs' d op = some (r, ups) ∧ objs d = none ∧ ∃ o, ups = [(d, o)] := by
  cases op
  case alloc t =>
    simp only [effOp0] at he ⊢
    split at he
    case h_2 => cases he
    rename_i i ht hd
    cases he
    exact ⟨by simp only [h0, ht], hd, _, rfl⟩
  case box t x =>
    simp only [effOp0] at he ⊢
    split at he
    case h_2 => cases he
    rename_i cs hc hd
    cases he
    exact ⟨by simp only [h0, hc], hd, _, rfl⟩
  case buildSlice t n parts =>
    simp only [effOp0] at he ⊢
    split at he
    case h_2 => cases he
    rename_i e s b z ht hd
    simp only [h0, ht]
    split at he
    case h_2 => cases he
    rename_i ie hie
    try simp only [hie]
    split at he
    case h_2 => cases he
    rename_i es hp
    try simp only [hp]
    split at he
    case isFalse => cases he
    rename_i hc
    cases he
    exact ⟨by rw [if_pos hc], hd, _, rfl⟩
  all_goals cases h

theorem opA_eff {T : TT} {ev : Operand → AV} {objs objs' : Objs} {d : Key} {op : Op} (h : opA op = true) (h0 : objs' d = none) {r : AV} {ups : List (Key × Ob)} (he : effOp T ev objs d op = some (r, ups)) :
    effOp T ev objs' d op = some (r, ups) ∧ objs d = none ∧ ∃ o, ups = [(d, o)] := by
  obtain ⟨⟨r0, ups0⟩, g0, hb⟩ := effOp_some he
  obtain ⟨g1, g2, o, rfl⟩ := opA0_eff (objs' := objs') h h0 g0
  refine ⟨by unfold effOp; rw [g1]; simp [hb], g2, ?_⟩
  rcases bornR_cases (T.born d) d r0 [(d, o)] with e | ⟨n, es, e1, e2, e⟩ | ⟨j', n, es, e1, e2, e⟩ | ⟨off, cs, ds, e1, e2, hds, e⟩
  · rw [hb] at e; cases e; exact ⟨o, rfl⟩
  · rw [hb] at e; cases e; exact ⟨_, rfl⟩
  · cases e2
  · rw [hb] at e; cases e; exact ⟨_, rfl⟩

/-- More things of our own, under free names: what was found is found again. -/
def Objs.ext (objs objs' : Objs) : Prop := ∀ k o, objs k = some o → objs' k = some o
theorem Objs.ext_upd {objs : Objs} {k : Key} (h : objs k = none) (o : Ob) : objs.ext (upd objs k (some o)) := by
  intro j x hx
  have : j ≠ k := by rintro rfl; rw [h] at hx; cases hx
  rw [upd_ne _ _ this]; exact hx
theorem lenA_ext {objs objs' : Objs} (h : objs.ext objs') {x : AV} {n : Nat} (hl : lenA objs x = some n) : lenA objs' x = some n := by
  unfold lenA at *
  split at hl
  · exact hl
  · exact hl
  · split at hl
    · rename_i hk; rw [h _ _ hk]; exact hl
    · cases hl
  · exact hl
  · cases hl
theorem someS_ext {objs objs' : Objs} (h : objs.ext objs') {x : AV} {b : Bool} (hl : someS objs x = some b) : someS objs' x = some b := by
  unfold someS at *
  split at hl
  · exact hl
  · exact hl
  · split at hl
    · rename_i hk; rw [h _ _ hk]; exact hl
    · cases hl
  · cases hl
theorem toDa_ext {objs objs' : Objs} (h : objs.ext objs') {x : AV} {d : D} (hl : toDa objs x = some d) : toDa objs' x = some d := by
  unfold toDa at *
  split at hl
  · exact hl
  · split at hl
    · rename_i hk; rw [h _ _ hk]; exact hl
    · cases hl
  · split at hl
    · rename_i hk; rw [h _ _ hk]; exact hl
    · cases hl
  · split at hl
    · rename_i hk; rw [h _ _ hk]; exact hl
    · cases hl
  · cases hl
theorem allSome_ext {α : Type} {f g : AV → Option α} (h : ∀ x d, f x = some d → g x = some d) : ∀ (l : List AV) (r : List α), allSome (l.map f) = some r → allSome (l.map g) = some r
  | [], r, hr => hr
  | x :: l, r, hr => by
    simp only [List.map_cons] at hr ⊢
    cases hx : f x with
    | none => simp [hx, allSome] at hr
    | some d =>
      rw [hx] at hr
      simp only [allSome] at hr
      split at hr
      case h_2 => cases hr
      rename_i l' hl'
      rw [h x d hx]
      simp only [allSome, allSome_ext h l l' hl']
      exact hr
theorem toD0_ext {objs objs' : Objs} (h : objs.ext objs') {x : AV} {d : D} (hl : toD0 objs x = some d) : toD0 objs' x = some d := by
  unfold toD0 at *
  split at hl
  · split at hl
    case h_2 => cases hl
    rename_i hk
    simp only [h _ _ hk]
    split at hl
    case h_2 => cases hl
    rename_i cs hcs
    rw [allSome_ext (fun x d hx => toDa_ext h hx) _ _ hcs]
    exact hl
  · exact hl
  · exact toDa_ext h hl
theorem toD1_ext {objs objs' : Objs} (h : objs.ext objs') {x : AV} {d : D} (hl : toD1 objs x = some d) : toD1 objs' x = some d := by
  unfold toD1 at *
  split at hl
  · split at hl
    case h_2 => cases hl
    rename_i ds hds
    rw [allSome_ext (fun x d hx => toD0_ext h hx) _ _ hds]
    exact hl
  · split at hl
    case h_2 => cases hl
    rename_i as bs has hbs
    rw [allSome_ext (fun x d hx => toD0_ext h hx) _ _ has, allSome_ext (fun x d hx => toD0_ext h hx) _ _ hbs]
    exact hl
  · exact toD0_ext h hl
theorem toD_ext {objs objs' : Objs} (h : objs.ext objs') {x : AV} {d : D} (hl : toD objs x = some d) : toD objs' x = some d := by
  unfold toD at *
  split at hl
  · split at hl
    case h_2 => cases hl
    rename_i ds hds
    rw [allSome_ext (fun x d hx => toD1_ext h hx) _ _ hds]
    exact hl
  · exact toD1_ext h hl

theorem memOp_ext {T : TT} {ev : Operand → AV} {objs objs' : Objs} (h : objs.ext objs') {op : Op} {r : AV} (hm : memOp T ev objs op = some r) : memOp T ev objs' op = some r := by
  cases op <;> simp only [memOp, reduceCtorEq] at hm ⊢
  case load t a =>
    split at hm
    case h_2 => cases hm
    split at hm
    · exact hm
    · split at hm
      case h_2 => cases hm
      rename_i hk; simp only [h _ _ hk]; exact hm
    · split at hm
      case h_2 => cases hm
      rename_i hk; simp only [h _ _ hk]; exact hm
    · cases hm
  case indexAddr t x ix =>
    split at hm
    · split at hm
      case h_2 => cases hm
      split at hm
      case isFalse => cases hm
      rename_i h0
      rw [if_pos h0]
      split at hm
      · exact hm
      · split at hm
        case h_2 => cases hm
        rename_i hk; simp only [h _ _ hk]; exact hm
      · exact hm
      · cases hm
    · exact hm
    · cases hm
  case slice t x lo hi mx =>
    cases mx with
    | some _ => simp [memOp] at hm
    | none =>
      simp only [memOp] at hm ⊢
      split at hm
      case h_3 => cases hm
      case h_2 => exact hm
      split at hm
      case h_2 => cases hm
      split at hm
      case h_2 => cases hm
      rename_i n hn
      simp only [lenA_ext h hn]
      split at hm
      case h_2 => cases hm
      split at hm
      case isFalse => cases hm
      rename_i hc
      rw [if_pos hc]
      split at hm
      · exact hm
      · split at hm
        case h_2 => cases hm
        rename_i hk; simp only [h _ _ hk]; exact hm
      · exact hm
      · cases hm
  case call c =>
    split at hm
    case h_2 => cases hm
    split at hm
    case h_2 => cases hm
    split at hm
    · exact hm
    · split at hm
      case h_2 => cases hm
      rename_i n hn
      simp only [lenA_ext h hn]; exact hm
    · exact hm
    · exact hm
    · split at hm
      case h_2 => cases hm
      rename_i hk; simp only [h _ _ hk]; exact hm
    · cases hm
  case lookup t x k ok =>
    split at hm
    case h_2 => cases hm
    split at hm
    · exact hm
    · exact hm
    · split at hm
      case h_2 => cases hm
      rename_i hk; simp only [h _ _ hk]; exact hm
    · cases hm
  case binOp op t x y yt =>
    split at hm
    case h_2 => cases hm
    split at hm
    · split at hm
      · rename_i hc
        rw [if_pos hc]
        split at hm
        case h_2 => cases hm
        rename_i b hb
        simp only [someS_ext h hb]; exact hm
      · rename_i hc
        rw [if_neg hc]
        split at hm
        case isFalse => cases hm
        rename_i hc2
        rw [if_pos hc2]
        split at hm
        case h_2 => cases hm
        rename_i b hb
        simp only [someS_ext h hb]; exact hm
    · split at hm
      · rename_i hc
        rw [if_pos hc]
        split at hm
        case h_2 => cases hm
        rename_i b hb
        simp only [someS_ext h hb]; exact hm
      · rename_i hc
        rw [if_neg hc]
        split at hm
        case isFalse => cases hm
        rename_i hc2
        rw [if_pos hc2]
        split at hm
        case h_2 => cases hm
        rename_i b hb
        simp only [someS_ext h hb]; exact hm
    · cases hm
end Go.Am
namespace Go.Am
set_option linter.unusedVariables false

theorem updO_ext : ∀ (ups : List (Key × Ob)) {objs : Objs} {k : Key} {o : Ob}, (∀ p ∈ ups, p.1 ≠ k) → updO (upd objs k (some o)) ups = upd (updO objs ups) k (some o)
  | [], objs, k, o, _ => rfl
  | (j, x) :: r, objs, k, o, h => by
    have hj : j ≠ k := h (j, x) (by simp)
    simp only [updO]
    have e : upd (upd objs k (some o)) j (some x) = upd (upd objs j (some x)) k (some o) := by
      funext i
      simp only [upd]
      by_cases h1 : i = j
      · subst h1; simp [hj]
      · by_cases h2 : i = k
        · subst h2; simp [h1]
        · simp [h1, h2]
    rw [e]
    exact updO_ext r (fun p hp => h p (by simp [hp]))

theorem elemsOf_ext {objs objs' : Objs} (h : objs.ext objs') {x : AV} {r : Nat × List (List D)} (hl : elemsOf objs x = some r) : elemsOf objs' x = some r := by
  unfold elemsOf at *
  split at hl
  · exact hl
  · exact hl
  · split at hl
    · rename_i hk; rw [h _ _ hk]; exact hl
    · cases hl
  · split at hl
    · rename_i hk; rw [h _ _ hk]; exact hl
    · cases hl
  · cases hl

/-- A new thing more: the same step, and it touches no free name but its own. -/
theorem effOp0_ext {T : TT} {ev : Operand → AV} {objs objs' : Objs} (h : objs.ext objs') {d k : Key} (hd : d ≠ k) (hk : objs k = none) (hdd : objs d = none → objs' d = none) {op : Op} {r : AV} {ups : List (Key × Ob)}
    (he : effOp0 T ev objs d op = some (r, ups)) : effOp0 T ev objs' d op = some (r, ups) ∧ ∀ p ∈ ups, p.1 ≠ k := by
  have one : ∀ {o : Ob}, ∀ p ∈ [(d, o)], p.1 ≠ k := by intro o p hp; simp at hp; subst hp; exact hd
  have old : ∀ {j : Key} {x o : Ob}, objs j = some x → ∀ p ∈ [(j, o)], p.1 ≠ k := by
    intro j x o hj p hp
    simp at hp; subst hp
    rintro rfl; rw [hk] at hj; cases hj
  cases op <;> simp only [effOp0, reduceCtorEq] at he
  case alloc t =>
    split at he <;> cases he
    rename_i i ht h0
    exact ⟨by simp only [effOp0, ht, hdd h0], one⟩
  case box t x =>
    split at he <;> cases he
    rename_i cs hc h0
    exact ⟨by simp only [effOp0, hc, hdd h0], one⟩
  case buildSlice t n parts =>
    split at he
    case h_2 => cases he
    rename_i e s b z ht h0
    split at he
    case h_2 => cases he
    rename_i ie hie
    split at he
    case h_2 => cases he
    rename_i es hp
    split at he
    case isFalse => cases he
    rename_i hc
    cases he
    exact ⟨by simp only [effOp0, ht, hdd h0, hie, hp]; rw [if_pos hc], one⟩
  case makeSlice t l c =>
    split at he
    case h_2 => cases he
    rename_i e s b z ht h0
    split at he
    case h_2 => cases he
    rename_i ie hie
    split at he
    case h_2 => cases he
    rename_i kl lv kc cv h1 h2
    split at he
    case isFalse => cases he
    rename_i hc
    cases he
    exact ⟨by simp only [effOp0, ht, hdd h0, hie, h1, h2]; rw [if_pos hc], one⟩
  case makeMap t r =>
    split at he <;> cases he
    rename_i h0
    exact ⟨by simp only [effOp0, hdd h0], one⟩
  case store t a x =>
    split at he
    case h_2 => cases he
    rename_i i cs ht hc
    split at he
    case isFalse => cases he
    rename_i hl
    split at he
    · rename_i j off ea
      split at he
      case h_2 => cases he
      rename_i cells hj
      split at he
      case isFalse => cases he
      rename_i hf
      cases he
      exact ⟨by simp only [effOp0, ht, hc, ea, h _ _ hj]; rw [if_pos hl, if_pos hf], old hj⟩
    · rename_i j kk ix off ea
      split at he
      case h_2 => cases he
      rename_i k' es ds hj hds
      split at he
      case isFalse => cases he
      rename_i hf
      split at he
      case h_2 => cases he
      rename_i el hel
      cases he
      exact ⟨by simp only [effOp0, ht, hc, ea, h _ _ hj, hds]; rw [if_pos hl, if_pos hf]; simp only [hel], old hj⟩
    · cases he
  case mapUpdate t m kx x =>
    split at he
    case h_2 => cases he
    rename_i kt et s b z ht
    split at he
    case h_2 => cases he
    rename_i ik hik
    split at he
    case isFalse => cases he
    rename_i hkk
    split at he
    case h_2 => cases he
    rename_i key kv xd e1 e2 e3
    split at he
    case h_2 => cases he
    rename_i es hj
    split at he
    case h_2 => cases he
    rename_i l hl
    cases he
    exact ⟨by simp only [effOp0, ht, hik, e1, e2, e3, h _ _ hj, hl]; rw [if_pos hkk], old hj⟩
  case insert t m kx x =>
    split at he
    case h_2 => cases he
    rename_i kt et s b z ht
    split at he
    case h_2 => cases he
    rename_i ik hik
    split at he
    case isFalse => cases he
    rename_i hkk
    split at he
    case h_2 => cases he
    rename_i key kv xd e1 e2 e3
    split at he
    case h_2 => cases he
    rename_i es hj
    split at he
    case h_2 => cases he
    rename_i l hl
    cases he
    exact ⟨by simp only [effOp0, ht, hik, e1, e2, e3, h _ _ hj, hl]; rw [if_pos hkk], old hj⟩
  case call c =>
    obtain ⟨callee, args, tys⟩ := c
    simp only at he
    split at he
    · split at he
      case h_2 => cases he
      rename_i t t' s x eT eA
      split at he
      case h_2 => cases he
      rename_i e s1 b1 z1 e' s2 b2 z2 ht ht' h0
      split at he
      case h_2 => cases he
      rename_i ie hie
      split at he
      case h_2 => cases he
      rename_i kk xs hxs
      split at he
      case isFalse => cases he
      rename_i hc
      split at he
      · rename_i es'
        split at he
        case isFalse => cases he
        rename_i hb
        cases he
        exact ⟨by simp only [effOp0, eT, eA, ht, ht', hdd h0, hie, elemsOf_ext h hxs, es']; rw [if_pos hc, if_pos hb], one⟩
      · rename_i key es'
        split at he
        case h_2 => cases he
        rename_i k' es hj
        split at he
        case isFalse => cases he
        rename_i hb
        cases he
        refine ⟨by simp only [effOp0, eT, eA, ht, ht', hdd h0, hie, elemsOf_ext h hxs, es', h _ _ hj]; rw [if_pos hc, if_pos hb], ?_⟩
        intro p hp
        simp at hp
        rcases hp with rfl | rfl
        · rintro rfl; rw [hk] at hj; cases hj
        · exact hd
      · cases he
    · split at he
      case h_2 => cases he
      rename_i t t' s x eT eA
      split at he
      case h_2 => cases he
      rename_i e s1 b1 z1 ht
      split at he
      case h_2 => cases he
      rename_i ie hie
      split at he
      case h_2 => cases he
      rename_i kk xs hxs
      split at he
      case isFalse => cases he
      rename_i hc
      split at he
      · rename_i key es'
        split at he
        case h_2 => cases he
        rename_i k' es hj
        split at he
        case isFalse => cases he
        rename_i hb
        cases he
        exact ⟨by simp only [effOp0, eT, eA, ht, hie, elemsOf_ext h hxs, es', h _ _ hj]; rw [if_pos hc, if_pos hb], old hj⟩
      · rename_i key k2 i len es'
        split at he
        case h_2 => cases he
        rename_i k' es hj
        split at he
        case isFalse => cases he
        rename_i hb
        cases he
        exact ⟨by simp only [effOp0, eT, eA, ht, hie, elemsOf_ext h hxs, es', h _ _ hj]; rw [if_pos hc, if_pos hb], old hj⟩
      · cases he
    · split at he
      case h_2 => cases he
      rename_i t s eT eA
      split at he
      case h_2 => cases he
      rename_i e s1 b1 z1 ht
      split at he
      case h_2 => cases he
      rename_i ie hie
      split at he
      case h_2 => cases he
      rename_i key k2 i len es'
      split at he
      case h_2 => cases he
      rename_i k' es hj
      split at he
      case isFalse => cases he
      rename_i hb
      cases he
      exact ⟨by simp only [effOp0, eT, eA, ht, hie, es', h _ _ hj]; rw [if_pos hb], old hj⟩
    · cases he

theorem effOp_ext {T : TT} {ev : Operand → AV} {objs objs' : Objs} (h : objs.ext objs') {d k : Key} (hd : d ≠ k) (hk : objs k = none) (hdd : objs d = none → objs' d = none) {op : Op} {r : AV} {ups : List (Key × Ob)}
    (he : effOp T ev objs d op = some (r, ups)) : effOp T ev objs' d op = some (r, ups) ∧ ∀ p ∈ ups, p.1 ≠ k := by
  obtain ⟨⟨r0, ups0⟩, g0, hb⟩ := effOp_some he
  obtain ⟨g1, g2⟩ := effOp0_ext (objs' := objs') h hd hk hdd g0
  refine ⟨by unfold effOp; rw [g1]; simp [hb], fun p hp => ?_⟩
  have h3 := bornR_keys (b := T.born d) (d := d) (q := (r0, ups0)) p (by rw [hb]; exact hp)
  obtain ⟨p', h4, h5⟩ := h3
  rw [← h5]; exact g2 p' h4
/-- What an operation answers and changes. -/
def res (T : TT) (G : Gl) (σ : St) (o : Oper) : Option (AV × List (Key × Ob)) :=
  match pureOp T (evA G σ.slots) o.op with
  | some r => some (r, [])
  | none => match memOp T (evA G σ.slots) σ.objs o.op with
    | some r => some (r, [])
    | none => effOp T (evA G σ.slots) σ.objs (o.dst.getD 9999) o.op
def St.step (σ : St) (dst : Option Tmp) (r : AV) (ups : List (Key × Ob)) : St := St.put ⟨σ.slots, updO σ.objs ups⟩ dst r
theorem stepA_res {T : TT} {G : Gl} {σ : St} {o : Oper} : stepA T G σ o = (res T G σ o).map fun p => σ.step o.dst p.1 p.2 := by
  unfold stepA res St.step
  cases pureOp T (evA G σ.slots) o.op with
  | some r => rfl
  | none =>
    cases memOp T (evA G σ.slots) σ.objs o.op with
    | some r => rfl
    | none =>
      cases effOp T (evA G σ.slots) σ.objs (o.dst.getD 9999) o.op with
      | none => rfl
      | some p => obtain ⟨r, ups⟩ := p; rfl

theorem evA_put {G : Gl} {σ : St} {dst : Option Tmp} {r : AV} {x : Operand} (h : ∀ d, dst = some d → x ≠ .tmp d) : evA G (σ.put dst r).slots x = evA G σ.slots x := by
  cases dst with
  | none => rfl
  | some d =>
    cases x with
    | tmp t =>
      have : t ≠ d := fun e => h d rfl (by rw [e])
      simp only [evA, St.put, upd_ne _ _ this]
    | _ => rfl
theorem looks_operand {all : Array Oper} {o : Oper} {d : Tmp} (h : d ∉ o.looksAt all) : ∀ x ∈ o.op.operands.toList, x ≠ .tmp d := by
  rintro x hx rfl
  exact h (by unfold Oper.looksAt; exact List.mem_append_left _ (List.mem_filterMap.2 ⟨_, hx, rfl⟩))
theorem looks_guard {all : Array Oper} {o : Oper} {d : Tmp} (h : d ∉ o.looksAt all) {j : Nat} {b : Bool} (hg : o.guard = some (j, b)) {e : Tmp} (he : (all[j]?).bind (·.dst) = some e) : e ≠ d := by
  rintro rfl
  exact h (by unfold Oper.looksAt; exact List.mem_append_right _ (by simp [hg, he]))

theorem put_comm {σ : St} {x y : Option Tmp} {r s : AV} (h : ∀ d, x = some d → y ≠ some d) : (σ.put x r).put y s = (σ.put y s).put x r := by
  cases x with
  | none => rfl
  | some d =>
    cases y with
    | none => rfl
    | some e =>
      have hne : d ≠ e := fun he => h d rfl (by rw [he])
      simp only [St.put]
      congr 1
      funext t
      simp only [upd]
      by_cases h1 : t = d
      · subst h1; simp [hne]
      · by_cases h2 : t = e
        · subst h2; simp [h1]
        · simp [h1, h2]
end Go.Am
namespace Go.Am
set_option linter.unusedVariables false

def pass (x y : Oper) : Bool :=
  opP x.op || opP y.op || ((opM x.op || opC x.op) && (opM y.op || opC y.op) && !(opC x.op && opC y.op)) ||
  (opA y.op && match y.dst with
    | some d => decide (d < 9999)
    | none => false)

def wantA (all : Array Oper) (σ : St) (o : Oper) : Option Bool :=
  match o.guard with
  | none => some true
  | some (j, want) => match (all[j]?).bind (·.dst) with
    | some d => match σ.slots d with
      | .d (.val (.bool b)) => some (decide (b = want))
      | .d (.val (.tuple _)) => some false
      | _ => none
    | none => none

section
variable {P : Program} {T : TT} {G : Gl} {all : Array Oper}

theorem vOp_eq {o : Oper} {K : St → Prop} {σ : St} : vOp P T G all o K σ = match wantA all σ o with
    | some true => vDo P T G o K σ
    | some false => K (σ.put o.dst (.d (.val (.tuple #[]))))
    | none => False := by
  unfold vOp wantA
  cases hg : o.guard with
  | none => rfl
  | some p =>
    obtain ⟨j, want⟩ := p
    simp only
    cases hd : (all[j]?).bind (·.dst) with
    | none => rfl
    | some d =>
      simp only
      generalize σ.slots d = x
      cases x with
      | d x =>
        cases x with
        | val v =>
          cases v with
          | bool b => by_cases h : b = want <;> simp [h]
          | _ => rfl
        | _ => rfl
      | _ => rfl

theorem wantA_put {o : Oper} {σ : St} {dst : Option Tmp} {r : AV} (h : ∀ d, dst = some d → d ∉ o.looksAt all) : wantA all (σ.put dst r) o = wantA all σ o := by
  unfold wantA
  split
  · rfl
  · rename_i j want hg
    split
    · rename_i e he
      have hs : (σ.put dst r).slots e = σ.slots e := by
        cases dst with
        | none => rfl
        | some d => simp only [St.put, upd_ne _ _ (looks_guard (h d rfl) hg he)]
      rw [hs]
    · rfl
theorem ev_put {o : Oper} {σ : St} {dst : Option Tmp} {r : AV} (h : ∀ d, dst = some d → d ∉ o.looksAt all) : ∀ x ∈ o.op.operands.toList, evA G (σ.put dst r).slots x = evA G σ.slots x :=
  fun x hx => evA_put fun d hd => looks_operand (h d hd) x hx

theorem res_put {o : Oper} {σ : St} {dst : Option Tmp} {r : AV} (h : ∀ d, dst = some d → d ∉ o.looksAt all) : res T G (σ.put dst r) o = res T G σ o := by
  have hev := ev_put (G := G) (σ := σ) (r := r) h
  unfold res
  rw [pureOp_congr hev, memOp_congr hev, effOp_congr hev, St.put_objs]

theorem step_put {σ : St} {dx dy : Option Tmp} {r s : AV} {ups : List (Key × Ob)} (h : ∀ d, dx = some d → dy ≠ some d) : (σ.put dx r).step dy s ups = (σ.step dy s ups).put dx r := by
  unfold St.step
  rw [← put_comm h]
  cases dx <;> rfl

theorem vCall_put {o : Oper} {σ : St} {dst : Option Tmp} {r : AV} {K : St → Prop} (h : ∀ d, dst = some d → d ∉ o.looksAt all) (hne : ∀ d, dst = some d → o.dst ≠ some d) :
    vCall P G o (σ.put dst r) K = vCall P G o σ (fun σ' => K (σ'.put dst r)) := by
  have hev := ev_put (G := G) (σ := σ) (r := r) h
  unfold vCall
  split
  · rename_i x args tys hop
    have e1 : evA G (σ.put dst r).slots x = evA G σ.slots x := hev x (by rw [hop]; simp [Op.operands, Call.operands])
    have e2 : args.toList.map (evA G (σ.put dst r).slots) = args.toList.map (evA G σ.slots) := map_ev fun y hy => hev y (by rw [hop]; simp [Op.operands, Call.operands]; exact .inr (by simpa using hy))
    rw [e1]
    split
    · rename_i f pre post hcal
      unfold vPure
      rw [e2, St.put_objs]
      simp only [put_comm hne]
    · rfl
  · rfl

theorem vDo_put {o : Oper} {σ : St} {dst : Option Tmp} {r : AV} {K : St → Prop} (h : ∀ d, dst = some d → d ∉ o.looksAt all) (hne : ∀ d, dst = some d → o.dst ≠ some d) :
    vDo P T G o K (σ.put dst r) = vDo P T G o (fun σ' => K (σ'.put dst r)) σ := by
  unfold vDo
  rw [stepA_res, stepA_res, res_put h]
  cases hr : res T G σ o with
  | none => exact vCall_put h hne
  | some p => simp only [Option.map_some, step_put hne]

theorem eff_kind {ev : Operand → AV} {objs : Objs} {d : Key} {op : Op} {p : AV × List (Key × Ob)} (h : effOp T ev objs d op = some p) (objs' : Objs) : pureOp T ev op = none ∧ memOp T ev objs' op = none := by
  obtain ⟨q, h1, _⟩ := effOp_some h
  clear h
  cases op <;> first | exact ⟨rfl, rfl⟩ | (simp only [effOp0, reduceCtorEq] at h1; done) | skip
  case call c =>
    obtain ⟨callee, args, tys⟩ := c
    cases callee with
    | value => exact ⟨rfl, rfl⟩
    | invoke => exact ⟨rfl, rfl⟩
    | builtin b => cases b <;> first | exact ⟨rfl, rfl⟩ | (simp only [effOp0, reduceCtorEq] at h1; done)

theorem pure_kind {ev : Operand → AV} {op : Op} {r : AV} (h : pureOp T ev op = some r) : opP op = true ∨ opM op = true := by
  cases op
  case call c =>
    obtain ⟨callee, args, tys⟩ := c
    cases callee with
    | value => exact absurd h (by simp [pureOp])
    | invoke => exact absurd h (by simp [pureOp])
    | builtin b => cases b <;> first | exact .inr rfl | exact absurd h (by simp [pureOp])
  all_goals first | exact .inl rfl | exact .inr rfl | exact absurd h (by simp [pureOp])
theorem mem_kind {ev : Operand → AV} {objs : Objs} {op : Op} {r : AV} (h : memOp T ev objs op = some r) : opP op = true ∨ opM op = true := by
  cases op
  case call c =>
    obtain ⟨callee, args, tys⟩ := c
    cases callee with
    | value => exact absurd h (by simp [memOp])
    | invoke => exact absurd h (by simp [memOp])
    | builtin b => cases b <;> first | exact .inr rfl | exact absurd h (by simp [memOp])
  all_goals first | exact .inl rfl | exact .inr rfl | exact absurd h (by simp [memOp])

theorem updO_none : ∀ (ups : List (Key × Ob)) {objs : Objs} {k : Key}, updO objs ups k = none → objs k = none ∧ ∀ p ∈ ups, p.1 ≠ k
  | [], objs, k, h => ⟨h, by simp⟩
  | (j, x) :: r, objs, k, h => by
    obtain ⟨h1, h2⟩ := updO_none r h
    have hj : j ≠ k := by rintro rfl; rw [upd_same] at h1; cases h1
    rw [upd_ne _ _ (Ne.symm hj)] at h1
    exact ⟨h1, by intro p hp; rcases List.mem_cons.1 hp with rfl | hp; exact hj; exact h2 p hp⟩

theorem vCall_kind {o : Oper} {σ : St} {K : St → Prop} (h : vCall P G o σ K) : opC o.op = true := by
  unfold vCall at h
  split at h
  · rename_i x args tys hop; rw [hop]; rfl
  · cases h

theorem opC_not {op : Op} (h : opC op = true) : opP op = false ∧ opM op = false ∧ opA op = false := by
  cases op <;> first | cases h | skip
  case call c =>
    obtain ⟨callee, args, tys⟩ := c
    cases callee with
    | value => exact ⟨rfl, rfl, rfl⟩
    | invoke => cases h
    | builtin b => cases h

/-- What an operation that answers, answers where there are more things of our own, under free names. -/
theorem res_ext {o : Oper} {slots : Nat → AV} {objs objs' : Objs} (h : objs.ext objs') {r : AV} (hr : res T G ⟨slots, objs⟩ o = some (r, [])) (hk : opP o.op = true ∨ opM o.op = true) : res T G ⟨slots, objs'⟩ o = some (r, []) := by
  unfold res at *
  simp only at *
  split at hr
  · exact hr
  · rename_i hp
    split at hr
    · rename_i rr hm
      simp only [memOp_ext h hm]
      exact hr
    · rename_i hm
      rcases hk with hk | hk
      · rw [(opP_spec (T := T) (ev := evA G slots) (objs := objs) (d := o.dst.getD 9999) hk).2] at hr; cases hr
      · rw [opM_spec hk] at hr; cases hr

theorem res_PM {o : Oper} {σ : St} {r : AV} {ups : List (Key × Ob)} (hr : res T G σ o = some (r, ups)) (hk : opP o.op = true ∨ opM o.op = true) : ups = [] := by
  unfold res at hr
  split at hr
  · cases hr; rfl
  · split at hr
    · cases hr; rfl
    · rcases hk with hk | hk
      · rw [(opP_spec (T := T) (ev := evA G σ.slots) (objs := σ.objs) (d := o.dst.getD 9999) hk).2] at hr; cases hr
      · rw [opM_spec hk] at hr; cases hr
theorem res_P {o : Oper} {slots : Nat → AV} {objs objs' : Objs} {p : AV × List (Key × Ob)} (hr : res T G ⟨slots, objs⟩ o = some p) (hk : opP o.op = true) : res T G ⟨slots, objs'⟩ o = some p ∧ p.2 = [] := by
  unfold res at *
  simp only at *
  split at hr
  · cases hr; exact ⟨rfl, rfl⟩
  · rw [(opP_spec (T := T) (ev := evA G slots) (objs := objs) (d := o.dst.getD 9999) hk).1, (opP_spec (T := T) (ev := evA G slots) (objs := objs) (d := o.dst.getD 9999) hk).2] at hr
    cases hr
theorem res_C {o : Oper} {σ : St} (hk : opC o.op = true) : res T G σ o = none := by
  unfold res
  obtain ⟨h1, h2, h3⟩ := opC_spec (T := T) (ev := evA G σ.slots) (objs := σ.objs) (d := o.dst.getD 9999) hk
  rw [h1, h2, h3]
theorem vDo_res {o : Oper} {σ : St} {K : St → Prop} {r : AV} {ups : List (Key × Ob)} (hr : res T G σ o = some (r, ups)) : vDo P T G o K σ = K (σ.step o.dst r ups) := by
  unfold vDo; rw [stepA_res, hr]; rfl
theorem vDo_call {o : Oper} {σ : St} {K : St → Prop} (hr : res T G σ o = none) : vDo P T G o K σ = vCall P G o σ K := by
  unfold vDo; rw [stepA_res, hr]; rfl
theorem vCall_mono {o : Oper} {σ : St} {K K' : St → Prop} (h : vCall P G o σ K) (hk : ∀ r, K (σ.put o.dst r) → K' (σ.put o.dst r)) : vCall P G o σ K' := by
  unfold vCall at *
  split
  · rename_i x args tys hop
    rw [hop] at h
    simp only at h
    split
    · rename_i f pre post hcal
      simp only [hcal] at h
      obtain ⟨ds0, ds, R, h1, h2, h3, h4, h5, h6⟩ := h
      exact ⟨ds0, ds, R, h1, h2, h3, h4, h5, fun r hr => hk _ (h6 r hr)⟩
    · rename_i hcal
      simp only [hcal] at h
  · rename_i hop
    split at h
    · rename_i x args tys e; exact absurd e (hop x args tys)
    · exact h

theorem swapDo {x y : Oper} {σ : St} {K : St → Prop} (h1 : ∀ d, x.dst = some d → d ∉ y.looksAt all) (h2 : ∀ d, x.dst = some d → y.dst ≠ some d) (h3 : ∀ d, y.dst = some d → d ∉ x.looksAt all) (hp : pass x y = true)
    (h : vDo P T G x (fun σ1 => vDo P T G y K σ1) σ) : vDo P T G y (fun σ2 => vDo P T G x K σ2) σ := by
  have h2' : ∀ d, y.dst = some d → x.dst ≠ some d := fun d hd hx => h2 d hx hd
  obtain ⟨slots, objs⟩ := σ
  have hshape : ∀ {o : Oper} {r : AV} {u : List (Key × Ob)}, St.step ⟨slots, objs⟩ o.dst r u = St.put ⟨slots, updO objs u⟩ o.dst r := rfl
  cases hrx : res T G ⟨slots, objs⟩ x with
  | none =>
    rw [vDo_call hrx] at h
    have hxc := vCall_kind h
    obtain ⟨n1, n2, n3⟩ := opC_not hxc
    -- y is no call
    have hy : (opP y.op = true ∨ opM y.op = true) ∨ (opA y.op = true ∧ ∃ d, y.dst = some d ∧ d < 9999) := by
      simp only [pass, n1, n2, hxc, Bool.false_or, Bool.true_and] at hp
      cases hP : opP y.op with
      | true => exact .inl (.inl rfl)
      | false =>
        cases hM : opM y.op with
        | true => exact .inl (.inr rfl)
        | false =>
          simp only [hP, hM, Bool.false_or] at hp
          cases hA : opA y.op with
          | false => simp [hA] at hp
          | true =>
            refine .inr ⟨rfl, ?_⟩
            simp only [hA, Bool.true_and] at hp
            cases hd : y.dst with
            | none => simp [hd] at hp
            | some d => simp [hd] at hp; exact ⟨d, rfl, hp⟩
    have hyc : opC y.op = false := by
      cases hC : opC y.op with
      | false => rfl
      | true =>
        obtain ⟨a, b, c⟩ := opC_not hC
        rcases hy with (e | e) | ⟨e, _⟩
        · rw [a] at e; cases e
        · rw [b] at e; cases e
        · rw [c] at e; cases e
    unfold vCall at h
    split at h
    case h_2 => cases h
    rename_i fx args tys hop
    split at h
    case h_2 => cases h
    rename_i f pre post hcal
    obtain ⟨ds0, ds, R, q1, q2, q3, ⟨r0, rfl⟩, q5, q6⟩ := h
    have hr0 : vDo P T G y K (St.put ⟨slots, objs⟩ x.dst (.d r0)) := q6 r0 rfl
    rw [vDo_put h1 h2] at hr0
    cases hry : res T G ⟨slots, objs⟩ y with
    | none =>
      rw [vDo_call hry] at hr0
      have := vCall_kind hr0
      rw [hyc] at this; cases this
    | some p =>
      obtain ⟨ry, uy⟩ := p
      rw [vDo_res hry]
      have hext : Objs.ext objs (updO objs uy) := by
        rcases hy with hy | ⟨hy, _⟩
        · rw [res_PM hry hy]; exact fun _ _ h => h
        · have hey : effOp T (evA G slots) objs (y.dst.getD 9999) y.op = some (ry, uy) := by
            unfold res at hry
            simp only [(opA_spec (T := T) (ev := evA G slots) (objs := objs) hy).1, (opA_spec (T := T) (ev := evA G slots) (objs := objs) hy).2] at hry
            exact hry
          obtain ⟨e0, hn, o, rfl⟩ := opA_eff (objs' := fun _ => none) hy rfl hey
          exact Objs.ext_upd hn o
      show vDo P T G x K (St.step ⟨slots, objs⟩ y.dst ry uy)
      rw [hshape, vDo_put h3 h2', vDo_call (res_C hxc)]
      unfold vCall
      rw [hop]
      simp only [hcal]
      refine ⟨ds0, ds, _, allSome_ext (fun x d hx => toD_ext hext hx) _ _ q1, q2, q3, ⟨r0, rfl⟩, q5, fun r hr => ?_⟩
      have hr6 : vDo P T G y K (St.put ⟨slots, objs⟩ x.dst (.d r)) := q6 r hr
      rw [vDo_put h1 h2, vDo_res hry, hshape, put_comm h2'] at hr6
      exact hr6
  | some p =>
    obtain ⟨rx, ux⟩ := p
    rw [vDo_res hrx, hshape, vDo_put h1 h2] at h
    -- what y does
    cases hry : res T G ⟨slots, updO objs ux⟩ y with
    | none =>
      rw [vDo_call hry] at h
      have hyc := vCall_kind h
      obtain ⟨n1, n2, n3⟩ := opC_not hyc
      have hx : opP x.op = true ∨ opM x.op = true := by
        simp only [pass, n1, n2, n3, hyc, Bool.false_or, Bool.or_false, Bool.false_and, Bool.and_true, Bool.or_true] at hp
        cases hP : opP x.op with
        | true => exact .inl rfl
        | false =>
          cases hM : opM x.op with
          | true => exact .inr rfl
          | false => cases hC : opC x.op <;> simp [hP, hM, hC] at hp
      have hux := res_PM hrx hx
      subst hux
      rw [vDo_call (show res T G ⟨slots, objs⟩ y = none from hry)]
      refine vCall_mono h fun r hr => ?_
      rw [vDo_put h3 h2', vDo_res hrx, hshape, put_comm h2]
      exact hr
    | some p =>
      obtain ⟨ry, uy⟩ := p
      rw [vDo_res hry] at h
      have hstep : St.step ⟨slots, updO objs ux⟩ y.dst ry uy = St.put ⟨slots, updO (updO objs ux) uy⟩ y.dst ry := rfl
      rw [hstep] at h
      have goalOf : ∀ {uy' : List (Key × Ob)} {ry' : AV}, res T G ⟨slots, objs⟩ y = some (ry', uy') → (∃ ux', res T G ⟨slots, updO objs uy'⟩ x = some (rx, ux') ∧ ry' = ry ∧ updO (updO objs uy') ux' = updO (updO objs ux) uy) →
          vDo P T G y (fun σ2 => vDo P T G x K σ2) ⟨slots, objs⟩ := by
        rintro uy' ry' e1 ⟨ux', e2, rfl, e3⟩
        rw [vDo_res e1]
        show vDo P T G x K (St.step ⟨slots, objs⟩ y.dst ry' uy')
        rw [hshape, vDo_put h3 h2', vDo_res e2]
        have : St.step ⟨slots, updO objs uy'⟩ x.dst rx ux' = St.put ⟨slots, updO (updO objs uy') ux'⟩ x.dst rx := rfl
        rw [this, e3, put_comm h2]
        exact h
      by_cases hxPM : opP x.op = true ∨ opM x.op = true
      · have hux := res_PM hrx hxPM
        subst hux
        refine goalOf hry ⟨[], ?_, rfl, rfl⟩
        by_cases hyPM : opP y.op = true ∨ opM y.op = true
        · rw [res_PM hry hyPM]; exact hrx
        · by_cases hxP : opP x.op = true
          · exact (res_P hrx hxP).1
          · -- x reads, y makes a new thing
            have hy : opA y.op = true := by
              rw [not_or] at hyPM
              have a1 : opP x.op = false := by simpa using hxP
              have a2 : opP y.op = false := by simpa using hyPM.1
              have a3 : opM y.op = false := by simpa using hyPM.2
              simp only [pass, a1, a2, a3, Bool.false_or] at hp
              cases hA : opA y.op with
              | true => rfl
              | false =>
                cases hC : opC y.op with
                | false => simp [hA, hC] at hp
                | true => rw [res_C hC] at hry; cases hry
            have hey : effOp T (evA G slots) objs (y.dst.getD 9999) y.op = some (ry, uy) := by
              have hry' : res T G ⟨slots, objs⟩ y = some (ry, uy) := hry
              unfold res at hry'
              simp only [(opA_spec (T := T) (ev := evA G slots) (objs := objs) hy).1, (opA_spec (T := T) (ev := evA G slots) (objs := objs) hy).2] at hry'
              exact hry'
            obtain ⟨e0, hn, o, rfl⟩ := opA_eff (objs' := fun _ => none) hy rfl hey
            exact res_ext (Objs.ext_upd hn o) hrx hxPM
      · rw [not_or] at hxPM
        have a1 : opP x.op = false := by simpa using hxPM.1
        have a2 : opM x.op = false := by simpa using hxPM.2
        have hxC : opC x.op = false := by
          cases hC : opC x.op with
          | false => rfl
          | true => rw [res_C hC] at hrx; cases hrx
        by_cases hyP : opP y.op = true
        · obtain ⟨e1, e2⟩ := res_P (objs' := objs) hry hyP
          simp only at e2
          subst e2
          exact goalOf e1 ⟨ux, hrx, rfl, rfl⟩
        · have a3 : opP y.op = false := by simpa using hyP
          simp only [pass, a1, a2, a3, hxC, Bool.false_or, Bool.false_and] at hp
          rw [Bool.and_eq_true] at hp
          obtain ⟨hy, hd⟩ := hp
          have hyd : ∃ d, y.dst = some d ∧ d < 9999 := by
            cases hd' : y.dst with
            | none => simp [hd'] at hd
            | some d => simp [hd'] at hd; exact ⟨d, rfl, hd⟩
          obtain ⟨d, hyd, hd9⟩ := hyd
          have hey : effOp T (evA G slots) (updO objs ux) (y.dst.getD 9999) y.op = some (ry, uy) := by
            unfold res at hry
            simp only [(opA_spec (T := T) (ev := evA G slots) (objs := updO objs ux) hy).1, (opA_spec (T := T) (ev := evA G slots) (objs := updO objs ux) hy).2] at hry
            exact hry
          rw [hyd] at hey
          simp only [Option.getD_some] at hey
          obtain ⟨_, hn, o, rfl⟩ := opA_eff (objs' := fun _ => none) hy rfl hey
          obtain ⟨hn0, hux⟩ := updO_none ux hn
          obtain ⟨hey0, _, _⟩ := opA_eff (objs' := objs) hy hn0 hey
          have hry0 : res T G ⟨slots, objs⟩ y = some (ry, [(d, o)]) := by
            unfold res
            simp only [(opA_spec (T := T) (ev := evA G slots) (objs := objs) hy).1, (opA_spec (T := T) (ev := evA G slots) (objs := objs) hy).2, hyd, Option.getD_some]
            exact hey0
          have hex : effOp T (evA G slots) objs (x.dst.getD 9999) x.op = some (rx, ux) := by
            unfold res at hrx
            simp only at hrx
            split at hrx
            · rename_i hpx
              exact absurd (pure_kind hpx) (by simp [a1, a2])
            · split at hrx
              · rename_i hmx
                exact absurd (mem_kind hmx) (by simp [a1, a2])
              · exact hrx
          have hdx : x.dst.getD 9999 ≠ d := by
            cases hdx : x.dst with
            | none => simp only [Option.getD_none]; exact fun e => by rw [← e] at hd9; exact absurd hd9 (Nat.lt_irrefl _)
            | some e => simp only [Option.getD_some]; rintro rfl; exact h2 e hdx hyd
          obtain ⟨hex2, hne⟩ := effOp_ext (T := T) (ev := evA G slots) (Objs.ext_upd hn0 o) hdx hn0 (fun h0 => by rw [upd_ne _ _ hdx]; exact h0) hex
          refine goalOf hry0 ⟨ux, ?_, rfl, updO_ext ux hne⟩
          obtain ⟨k1, k2⟩ := eff_kind hex2 (upd objs d (some o))
          show res T G ⟨slots, upd objs d (some o)⟩ x = some (rx, ux)
          unfold res
          simp only [k1, k2]
          exact hex2

theorem vDo_mono {o : Oper} {σ : St} {K K' : St → Prop} (hk : ∀ σ, K σ → K' σ) (h : vDo P T G o K σ) : vDo P T G o K' σ := by
  unfold vDo at *
  split
  · rename_i e; rw [e] at h; exact hk _ h
  · rename_i e; rw [e] at h; exact vCall_mono h fun r hr => hk _ hr
theorem vOp_mono {o : Oper} {σ : St} {K K' : St → Prop} (hk : ∀ σ, K σ → K' σ) (h : vOp P T G all o K σ) : vOp P T G all o K' σ := by
  rw [vOp_eq] at *
  split
  · rename_i e; rw [e] at h; exact vDo_mono hk h
  · rename_i e; rw [e] at h; exact hk _ h
  · rename_i e; rw [e] at h; exact h

theorem step_slots {o : Oper} {σ : St} {K K' : St → Prop} (hk : ∀ objs r, K (St.put ⟨σ.slots, objs⟩ o.dst r) → K' (St.put ⟨σ.slots, objs⟩ o.dst r)) (h : vDo P T G o K σ) : vDo P T G o K' σ := by
  unfold vDo at *
  rw [stepA_res] at *
  cases hr : res T G σ o with
  | none => simp only [hr, Option.map_none] at h ⊢; exact vCall_mono h fun r hr => hk σ.objs r hr
  | some p => simp only [hr, Option.map_some] at h ⊢; exact hk _ _ h

/-- Two operations that are apart may change places. -/
theorem swap {x y : Oper} {σ : St} {K : St → Prop} (hap : x.apart all y = true) (hp : pass x y = true) (h : vOp P T G all x (fun σ1 => vOp P T G all y K σ1) σ) :
    vOp P T G all y (fun σ2 => vOp P T G all x K σ2) σ := by
  obtain ⟨a1, a2, a3⟩ := Oper.apart_spec hap
  have a2' : ∀ d, y.dst = some d → x.dst ≠ some d := fun d hd hx => a2 d hx hd
  rw [vOp_eq] at h
  have wy : ∀ (objs : Objs) (r : AV), wantA all (St.put ⟨σ.slots, objs⟩ x.dst r) y = wantA all σ y := fun objs r => by rw [wantA_put a1]; rfl
  have wx : ∀ (objs : Objs) (r : AV), wantA all (St.put ⟨σ.slots, objs⟩ y.dst r) x = wantA all σ x := fun objs r => by rw [wantA_put a3]; rfl
  split at h
  · rename_i hx
    rw [vOp_eq]
    have h' : vDo P T G x (fun σ1 => match wantA all σ y with
        | some true => vDo P T G y K σ1
        | some false => K (σ1.put y.dst (.d (.val (.tuple #[]))))
        | none => False) σ := by
      refine step_slots (fun objs r hk => ?_) h
      rw [vOp_eq, wy] at hk
      exact hk
    cases hwy : wantA all σ y with
    | none =>
      simp only [hwy] at h'
      unfold vDo at h'
      split at h'
      · exact h'
      · unfold vCall at h'
        split at h'
        · split at h'
          · obtain ⟨_, _, _, _, _, _, ⟨r, rfl⟩, _, q⟩ := h'
            exact q r rfl
          · exact h'
        · exact h'
    | some b =>
      cases b with
      | false =>
        simp only [hwy] at h'
        show vOp P T G all x K (σ.put y.dst (.d (.val (.tuple #[]))))
        rw [vOp_eq]
        have : wantA all (σ.put y.dst (.d (.val (.tuple #[])))) x = some true := by rw [wantA_put a3]; exact hx
        simp only [this]
        rw [vDo_put a3 a2']
        exact h'
      | true =>
        simp only [hwy] at h'
        have h2 := swapDo a1 a2 a3 hp h'
        show vDo P T G y (fun σ2 => vOp P T G all x K σ2) σ
        refine step_slots (fun objs r hk => ?_) h2
        rw [vOp_eq, wx, hx]
        exact hk
  · rename_i hx
    rw [vOp_eq, wantA_put a1] at h
    rw [vOp_eq]
    split at h
    · rename_i hy
      try simp only [hy]
      rw [vDo_put a1 a2] at h
      refine step_slots (fun objs r hk => ?_) h
      rw [vOp_eq, wx, hx]
      exact hk
    · rename_i hy
      try simp only [hy]
      show vOp P T G all x K (σ.put y.dst (.d (.val (.tuple #[]))))
      rw [vOp_eq, wantA_put a3, hx]
      show K _
      rw [put_comm a2']
      exact h
    · exact h.elim
  · exact h.elim

/-- Operation number 'i'. -/
theorem vDo_mono' {o : Oper} {σ : St} {K K' : St → Prop} (h : vDo P T G o K σ) (hk : ∀ σ' r, σ' = σ.put o.dst (.d r) → K σ' → K' σ') (hC : opC o.op = true) : vDo P T G o K' σ := by
  rw [vDo_call (res_C hC)] at h ⊢
  unfold vCall at *
  split
  · rename_i x args tys hop
    rw [hop] at h
    simp only at h
    split
    · rename_i f pre post hcal
      simp only [hcal] at h
      obtain ⟨ds0, ds, R, h1, h2, h3, h4, h5, h6⟩ := h
      exact ⟨ds0, ds, R, h1, h2, h3, h4, h5, fun r hr => hk _ r rfl (h6 r hr)⟩
    · rename_i hcal
      simp only [hcal] at h
  · rename_i hop
    split at h
    · rename_i x args tys e; exact absurd e (hop x args tys)
    · exact h
/-- What is dead there may be alive, or not there, here. -/
def Objs.low (objs objs' : Objs) : Prop := ∀ k o, objs k = some o → o ≠ .dead → objs' k = some o
theorem toDa_low {objs objs' : Objs} (h : objs.low objs') {x : AV} {d : D} (hl : toDa objs x = some d) : toDa objs' x = some d := by
  unfold toDa at *
  split at hl
  · exact hl
  · split at hl
    · rename_i hk; rw [h _ _ hk (by simp)]; exact hl
    · cases hl
  · split at hl
    · rename_i hk; rw [h _ _ hk (by simp)]; exact hl
    · cases hl
  · split at hl
    · rename_i hk; rw [h _ _ hk (by simp)]; exact hl
    · cases hl
  · cases hl
theorem toD0_low {objs objs' : Objs} (h : objs.low objs') {x : AV} {d : D} (hl : toD0 objs x = some d) : toD0 objs' x = some d := by
  unfold toD0 at *
  split at hl
  · split at hl
    case h_2 => cases hl
    rename_i hk
    simp only [h _ _ hk (by simp)]
    split at hl
    case h_2 => cases hl
    rename_i cs hcs
    rw [allSome_ext (fun x d hx => toDa_low h hx) _ _ hcs]
    exact hl
  · exact hl
  · exact toDa_low h hl
theorem toD1_low {objs objs' : Objs} (h : objs.low objs') {x : AV} {d : D} (hl : toD1 objs x = some d) : toD1 objs' x = some d := by
  unfold toD1 at *
  split at hl
  · split at hl
    case h_2 => cases hl
    rename_i ds hds
    rw [allSome_ext (fun x d hx => toD0_low h hx) _ _ hds]
    exact hl
  · split at hl
    case h_2 => cases hl
    rename_i as bs has hbs
    rw [allSome_ext (fun x d hx => toD0_low h hx) _ _ has, allSome_ext (fun x d hx => toD0_low h hx) _ _ hbs]
    exact hl
  · exact toD0_low h hl
theorem toD_low {objs objs' : Objs} (h : objs.low objs') {x : AV} {d : D} (hl : toD objs x = some d) : toD objs' x = some d := by
  unfold toD at *
  split at hl
  · split at hl
    case h_2 => cases hl
    rename_i ds hds
    rw [allSome_ext (fun x d hx => toD1_low h hx) _ _ hds]
    exact hl
  · exact toD1_low h hl

theorem lenA_low {objs objs' : Objs} (h : objs.low objs') {x : AV} {n : Nat} (hl : lenA objs x = some n) : lenA objs' x = some n := by
  unfold lenA at *
  split at hl
  · exact hl
  · exact hl
  · split at hl
    · rename_i hk; rw [h _ _ hk (by simp)]; exact hl
    · cases hl
  · exact hl
  · cases hl
theorem someS_low {objs objs' : Objs} (h : objs.low objs') {x : AV} {b : Bool} (hl : someS objs x = some b) : someS objs' x = some b := by
  unfold someS at *
  split at hl
  · exact hl
  · exact hl
  · split at hl
    · rename_i hk; rw [h _ _ hk (by simp)]; exact hl
    · cases hl
  · cases hl
theorem memOp_low {T : TT} {ev : Operand → AV} {objs objs' : Objs} (h : objs.low objs') {op : Op} {r : AV} (hm : memOp T ev objs op = some r) : memOp T ev objs' op = some r := by
  cases op <;> simp only [memOp, reduceCtorEq] at hm ⊢
  case load t a =>
    split at hm
    case h_2 => cases hm
    split at hm
    · exact hm
    · split at hm
      case h_2 => cases hm
      rename_i hk; simp only [h _ _ hk (by simp)]; exact hm
    · split at hm
      case h_2 => cases hm
      rename_i hk; simp only [h _ _ hk (by simp)]; exact hm
    · cases hm
  case indexAddr t x ix =>
    split at hm
    · split at hm
      case h_2 => cases hm
      split at hm
      case isFalse => cases hm
      rename_i h0
      rw [if_pos h0]
      split at hm
      · exact hm
      · split at hm
        case h_2 => cases hm
        rename_i hk; simp only [h _ _ hk (by simp)]; exact hm
      · exact hm
      · cases hm
    · exact hm
    · cases hm
  case slice t x lo hi mx =>
    cases mx with
    | some _ => simp [memOp] at hm
    | none =>
      simp only [memOp] at hm ⊢
      split at hm
      case h_3 => cases hm
      case h_2 => exact hm
      split at hm
      case h_2 => cases hm
      split at hm
      case h_2 => cases hm
      rename_i n hn
      simp only [lenA_low h hn]
      split at hm
      case h_2 => cases hm
      split at hm
      case isFalse => cases hm
      rename_i hc
      rw [if_pos hc]
      split at hm
      · exact hm
      · split at hm
        case h_2 => cases hm
        rename_i hk; simp only [h _ _ hk (by simp)]; exact hm
      · exact hm
      · cases hm
  case call c =>
    split at hm
    case h_2 => cases hm
    split at hm
    case h_2 => cases hm
    split at hm
    · exact hm
    · split at hm
      case h_2 => cases hm
      rename_i n hn
      simp only [lenA_low h hn]; exact hm
    · exact hm
    · exact hm
    · split at hm
      case h_2 => cases hm
      rename_i hk; simp only [h _ _ hk (by simp)]; exact hm
    · cases hm
  case lookup t x k ok =>
    split at hm
    case h_2 => cases hm
    split at hm
    · exact hm
    · exact hm
    · split at hm
      case h_2 => cases hm
      rename_i hk; simp only [h _ _ hk (by simp)]; exact hm
    · cases hm
  case binOp op t x y yt =>
    split at hm
    case h_2 => cases hm
    split at hm
    · split at hm
      · rename_i hc
        rw [if_pos hc]
        split at hm
        case h_2 => cases hm
        rename_i b hb
        simp only [someS_low h hb]; exact hm
      · rename_i hc
        rw [if_neg hc]
        split at hm
        case isFalse => cases hm
        rename_i hc2
        rw [if_pos hc2]
        split at hm
        case h_2 => cases hm
        rename_i b hb
        simp only [someS_low h hb]; exact hm
    · split at hm
      · rename_i hc
        rw [if_pos hc]
        split at hm
        case h_2 => cases hm
        rename_i b hb
        simp only [someS_low h hb]; exact hm
      · rename_i hc
        rw [if_neg hc]
        split at hm
        case isFalse => cases hm
        rename_i hc2
        rw [if_pos hc2]
        split at hm
        case h_2 => cases hm
        rename_i b hb
        simp only [someS_low h hb]; exact hm
    · cases hm
/-- A row that is data from its birth. -/
def bornX (T : TT) (x : Oper) : Bool := match x.op with
  | .buildSlice _ _ _ => T.born (x.dst.getD 9999)
  | _ => false
def passT (T : TT) (x y : Oper) : Bool := pass x y || (opC x.op && opC y.op) || (bornX T x && (opC y.op || opM y.op))
theorem res_born {x : Oper} {σ : St} (hb : bornX T x = true) {p : AV × List (Key × Ob)} (h : res T G σ x = some p) : σ.objs (x.dst.getD 9999) = none ∧ p.2 = [(x.dst.getD 9999, .dead)] := by
  unfold bornX at hb
  split at hb
  case h_2 => cases hb
  rename_i t n parts hop
  have hk : opA x.op = true := by rw [hop]; rfl
  obtain ⟨e1, e2⟩ := opA_spec (T := T) (ev := evA G σ.slots) (objs := σ.objs) hk
  unfold res at h
  rw [e1, e2] at h
  obtain ⟨q, h1, h2⟩ := effOp_some h
  rw [hop] at h1
  simp only [effOp0] at h1
  split at h1
  case h_2 => cases h1
  rename_i e s b z ht h0
  split at h1
  case h_2 => cases h1
  split at h1
  case h_2 => cases h1
  split at h1
  case isFalse => cases h1
  cases h1
  refine ⟨h0, ?_⟩
  rw [← h2]
  simp [bornR, hb]
theorem swapDoC {x y : Oper} {σ : St} {K : St → Prop} (h1 : ∀ d, x.dst = some d → d ∉ y.looksAt all) (h2 : ∀ d, x.dst = some d → y.dst ≠ some d) (h3 : ∀ d, y.dst = some d → d ∉ x.looksAt all) (hxC : opC x.op = true) (hyC' : opC y.op = true ∨ False)
    (h : vDo P T G x (fun σ1 => vDo P T G y K σ1) σ) : vDo P T G y (fun σ2 => vDo P T G x K σ2) σ := by
  have h2' : ∀ d, y.dst = some d → x.dst ≠ some d := fun d hd hx => h2 d hx hd
  have hyC : opC y.op = true := hyC'.resolve_right id
  rw [vDo_call (res_C hxC)] at h
  unfold vCall at h
  split at h
  case h_2 => cases h
  rename_i fx args tys hop
  split at h
  case h_2 => cases h
  rename_i f pre post hcal
  obtain ⟨ds0, ds, R, q1, q2, q3, ⟨r0, rfl⟩, q5, q6⟩ := h
  have hr0 : vDo P T G y K (St.put σ x.dst (.d r0)) := q6 r0 rfl
  rw [vDo_put h1 h2] at hr0
  refine vDo_mono' hr0 (fun σ' r he hk => ?_) hyC
  subst he
  rw [vDo_put h3 h2', vDo_call (res_C hxC)]
  unfold vCall
  rw [hop]
  simp only [hcal]
  refine ⟨ds0, ds, _, q1, q2, q3, ⟨r0, rfl⟩, q5, fun r hr => ?_⟩
  subst hr
  rw [put_comm h2]
  exact hk
theorem swapDoB {x y : Oper} {σ : St} {K : St → Prop} (h1 : ∀ d, x.dst = some d → d ∉ y.looksAt all) (h2 : ∀ d, x.dst = some d → y.dst ≠ some d) (h3 : ∀ d, y.dst = some d → d ∉ x.looksAt all) (hxB : bornX T x = true) (hyk : opC y.op = true ∨ opM y.op = true)
    (h : vDo P T G x (fun σ1 => vDo P T G y K σ1) σ) : vDo P T G y (fun σ2 => vDo P T G x K σ2) σ := by
  have h2' : ∀ d, y.dst = some d → x.dst ≠ some d := fun d hd hx => h2 d hx hd
  cases hrx : res T G σ x with
  | none =>
    rw [vDo_call hrx] at h
    have := vCall_kind h
    unfold bornX at hxB
    split at hxB
    · rename_i hop; rw [hop] at this; cases this
    · cases hxB
  | some p =>
    obtain ⟨rx, ups⟩ := p
    obtain ⟨hn, hu⟩ := res_born hxB hrx
    simp only at hu
    subst hu
    rw [vDo_res hrx] at h
    have hy : vDo P T G y K (St.put ⟨σ.slots, updO σ.objs [(x.dst.getD 9999, .dead)]⟩ x.dst rx) := h
    rw [vDo_put h1 h2] at hy
    have hlow : Objs.low (updO σ.objs [(x.dst.getD 9999, .dead)]) σ.objs := by
      intro k o hk ho
      simp only [updO] at hk
      by_cases e : k = x.dst.getD 9999
      · subst e; rw [upd_same] at hk; cases hk; exact absurd rfl ho
      · rwa [upd_ne _ _ e] at hk
    rcases hyk with hyC | hyM
    case inr =>
      have hyc : opC y.op = false := by
        cases hC : opC y.op with
        | false => rfl
        | true => have := (opC_not hC).2.1; rw [hyM] at this; cases this
      have key : ∀ p, res T G ⟨σ.slots, updO σ.objs [(x.dst.getD 9999, .dead)]⟩ y = some p → p.2 = [] ∧ res T G σ y = some p := by
        intro p hp
        have he : ∀ objs d, effOp T (evA G σ.slots) objs d y.op = none := fun objs d => opM_spec hyM
        unfold res at hp ⊢
        cases hpu : pureOp T (evA G σ.slots) y.op with
        | some r => simp only [hpu] at hp ⊢; cases hp; exact ⟨rfl, rfl⟩
        | none =>
          simp only [hpu] at hp ⊢
          cases hme : memOp T (evA G σ.slots) (updO σ.objs [(x.dst.getD 9999, .dead)]) y.op with
          | none => simp only [hme, he] at hp; cases hp
          | some r =>
            simp only [hme] at hp
            cases hp
            rw [memOp_low hlow hme]
            exact ⟨rfl, rfl⟩
      cases hry : res T G ⟨σ.slots, updO σ.objs [(x.dst.getD 9999, .dead)]⟩ y with
      | none =>
        rw [vDo_call hry] at hy
        have := vCall_kind hy
        rw [hyc] at this; cases this
      | some p =>
        obtain ⟨ry, uy⟩ := p
        obtain ⟨k1, k2⟩ := key _ hry
        simp only at k1
        subst k1
        rw [vDo_res hry] at hy
        rw [vDo_res k2]
        show vDo P T G x K (St.put σ y.dst ry)
        rw [vDo_put h3 h2', vDo_res hrx]
        unfold St.step
        rw [put_comm h2]
        exact hy
    rw [vDo_call (res_C hyC)] at hy
    rw [vDo_call (res_C hyC)]
    unfold vCall at hy ⊢
    split at hy
    case h_2 => cases hy
    rename_i fx args tys hop
    split at hy
    case h_2 => cases hy
    rename_i f pre post hcal
    obtain ⟨ds0, ds, R, q1, q2, q3, ⟨r0, rfl⟩, q5, q6⟩ := hy
    simp only [hop, hcal]
    refine ⟨ds0, ds, _, allSome_ext (fun x d hx => toD_low hlow hx) _ _ q1, q2, q3, ⟨r0, rfl⟩, q5, fun r hr => ?_⟩
    subst hr
    have := q6 r rfl
    rw [vDo_put h3 h2', vDo_res hrx]
    unfold St.step
    rw [put_comm h2]
    exact this
theorem swapDoT {x y : Oper} {σ : St} {K : St → Prop} (h1 : ∀ d, x.dst = some d → d ∉ y.looksAt all) (h2 : ∀ d, x.dst = some d → y.dst ≠ some d) (h3 : ∀ d, y.dst = some d → d ∉ x.looksAt all) (hp : passT T x y = true)
    (h : vDo P T G x (fun σ1 => vDo P T G y K σ1) σ) : vDo P T G y (fun σ2 => vDo P T G x K σ2) σ := by
  unfold passT at hp
  rw [Bool.or_eq_true, Bool.or_eq_true] at hp
  rcases hp with (hp | hp) | hp
  · exact swapDo h1 h2 h3 hp h
  · rw [Bool.and_eq_true] at hp
    exact swapDoC h1 h2 h3 hp.1 (.inl hp.2) h
  · rw [Bool.and_eq_true, Bool.or_eq_true] at hp
    exact swapDoB h1 h2 h3 hp.1 hp.2 h
/-- Two operations that are apart may change places: calls too. -/
theorem swapT {x y : Oper} {σ : St} {K : St → Prop} (hap : x.apart all y = true) (hp : passT T x y = true) (h : vOp P T G all x (fun σ1 => vOp P T G all y K σ1) σ) :
    vOp P T G all y (fun σ2 => vOp P T G all x K σ2) σ := by
  obtain ⟨a1, a2, a3⟩ := Oper.apart_spec hap
  have a2' : ∀ d, y.dst = some d → x.dst ≠ some d := fun d hd hx => a2 d hx hd
  rw [vOp_eq] at h
  have wy : ∀ (objs : Objs) (r : AV), wantA all (St.put ⟨σ.slots, objs⟩ x.dst r) y = wantA all σ y := fun objs r => by rw [wantA_put a1]; rfl
  have wx : ∀ (objs : Objs) (r : AV), wantA all (St.put ⟨σ.slots, objs⟩ y.dst r) x = wantA all σ x := fun objs r => by rw [wantA_put a3]; rfl
  split at h
  · rename_i hx
    rw [vOp_eq]
    have h' : vDo P T G x (fun σ1 => match wantA all σ y with
        | some true => vDo P T G y K σ1
        | some false => K (σ1.put y.dst (.d (.val (.tuple #[]))))
        | none => False) σ := by
      refine step_slots (fun objs r hk => ?_) h
      rw [vOp_eq, wy] at hk
      exact hk
    cases hwy : wantA all σ y with
    | none =>
      simp only [hwy] at h'
      unfold vDo at h'
      split at h'
      · exact h'
      · unfold vCall at h'
        split at h'
        · split at h'
          · obtain ⟨_, _, _, _, _, _, ⟨r, rfl⟩, _, q⟩ := h'
            exact q r rfl
          · exact h'
        · exact h'
    | some b =>
      cases b with
      | false =>
        simp only [hwy] at h'
        show vOp P T G all x K (σ.put y.dst (.d (.val (.tuple #[]))))
        rw [vOp_eq]
        have : wantA all (σ.put y.dst (.d (.val (.tuple #[])))) x = some true := by rw [wantA_put a3]; exact hx
        simp only [this]
        rw [vDo_put a3 a2']
        exact h'
      | true =>
        simp only [hwy] at h'
        have h2 := swapDoT a1 a2 a3 hp h'
        show vDo P T G y (fun σ2 => vOp P T G all x K σ2) σ
        refine step_slots (fun objs r hk => ?_) h2
        rw [vOp_eq, wx, hx]
        exact hk
  · rename_i hx
    rw [vOp_eq, wantA_put a1] at h
    rw [vOp_eq]
    split at h
    · rename_i hy
      try simp only [hy]
      rw [vDo_put a1 a2] at h
      refine step_slots (fun objs r hk => ?_) h
      rw [vOp_eq, wx, hx]
      exact hk
    · rename_i hy
      try simp only [hy]
      show vOp P T G all x K (σ.put y.dst (.d (.val (.tuple #[]))))
      rw [vOp_eq, wantA_put a3, hx]
      show K _
      rw [put_comm a2']
      exact h
    · exact h.elim
  · exact h.elim

/-- Operation number 'i'. -/
def amOp (P : Program) (T : TT) (G : Gl) (all : Array Oper) (i : Nat) (K : St → Prop) (σ : St) : Prop :=
  match all[i]? with
  | none => K σ
  | some o => vOp P T G all o K σ
theorem amOp_mono {i : Nat} {σ : St} {K K' : St → Prop} (hk : ∀ σ, K σ → K' σ) (h : amOp P T G all i K σ) : amOp P T G all i K' σ := by
  unfold amOp at *
  split
  · rename_i e; simp only [e] at h; exact hk _ h
  · rename_i o e; simp only [e] at h; exact vOp_mono hk h

/-- Whatever order is picked from here on. -/
def amAny (P : Program) (T : TT) (G : Gl) (all : Array Oper) (K : St → Prop) : Nat → Array Bool → St → Prop
  | 0, listed, σ => Region.ready .any all listed = [] ∧ K σ
  | fuel + 1, listed, σ =>
    (Region.ready .any all listed = [] → K σ) ∧ ∀ i ∈ Region.ready .any all listed, amOp P T G all i (amAny P T G all K fuel (listed.setIfInBounds i true)) σ

theorem amAny_firstT {K : St → Prop} {i : Nat} {oi : Oper} (hi : all[i]? = some oi) {B : List Nat} (hB : ∀ j oj, j ∈ B → all[j]? = some oj → ∃ e ∈ oj.after, Region.binds .any e = true ∧ (e.on = i ∨ e.on ∈ B)) : ∀ (fuel : Nat) (listed : Array Bool) (σ : St),
    (∀ j, j ∈ B → listed.getD j true = false) →
    (∀ j oj, all[j]? = some oj → j ≠ i → listed.getD j true = false → j ∉ B → oi.apart all oj = true ∧ passT T oi oj = true) →
    i ∈ Region.ready .any all listed → (¬ ∃ σ', K σ') ∨ True → amOp P T G all i (amAny P T G all K fuel (listed.setIfInBounds i true)) σ → amAny P T G all K (fuel + 1) listed σ := by
  intro fuel
  induction fuel with
  | zero =>
    intro listed σ hun0 hfree hr _ H
    refine ⟨fun h => (by rw [h] at hr; cases hr), fun j hj => ?_⟩
    by_cases hji : j = i
    · subst hji; exact H
    · have hm := ready_mono hj hji
      -- nothing else could still come up
      exfalso
      have key : Region.ready .any all (listed.setIfInBounds i true) = [] := by
        unfold amOp at H
        simp only [hi] at H
        rw [vOp_eq] at H
        split at H
        · unfold vDo at H
          split at H
          · exact H.1
          · unfold vCall at H
            split at H
            · split at H
              · obtain ⟨_, _, _, _, _, _, ⟨r, hr'⟩, _, q⟩ := H
                exact (q r (by rw [hr'])).1
              · exact H.elim
            · exact H.elim
        · exact H.1
        · exact H.elim
      rw [key] at hm; cases hm
  | succ fuel ih =>
    intro listed σ hun0 hfree hr _ H
    refine ⟨fun h => (by rw [h] at hr; cases hr), fun j hj => ?_⟩
    by_cases hji : j = i
    · subst hji; exact H
    · obtain ⟨hjun, oj, hoj, hall⟩ := mem_ready.1 hj
      have hoff : ∀ k, listed.getD k true = false → listed[k]?.getD false = true → False := fun k h0 h1 => by
        rcases Nat.lt_or_ge k listed.size with h' | h'
        · simp [h'] at h0 h1; rw [h0] at h1; cases h1
        · simp [Array.getElem?_eq_none h'] at h1
      have hnot : j ∉ B := fun hjB => by
        obtain ⟨e, he, hb, hor⟩ := hB j oj hjB hoj
        have h1 := hall e he hb
        rcases hor with hor | hor
        · rw [hor] at h1
          exact hoff i (mem_ready.1 hr).1 (by simpa using h1)
        · exact hoff _ (hun0 _ hor) (by simpa using h1)
      obtain ⟨p1, p2⟩ := hfree j oj hoj hji hjun hnot
      have h1 : amOp P T G all i (fun σ1 => amOp P T G all j (amAny P T G all K fuel ((listed.setIfInBounds i true).setIfInBounds j true)) σ1) σ := amOp_mono (fun σ1 hσ => hσ.2 j (ready_mono hj hji)) H
      have h2 : amOp P T G all j (fun σ2 => amOp P T G all i (amAny P T G all K fuel ((listed.setIfInBounds i true).setIfInBounds j true)) σ2) σ := by
        unfold amOp at h1 ⊢
        simp only [hi, hoj] at h1 ⊢
        exact swapT p1 p2 h1
      have hfree' : ∀ k ok, all[k]? = some ok → k ≠ i → (listed.setIfInBounds j true).getD k true = false →
          k ∉ B → oi.apart all ok = true ∧ passT T oi ok = true := fun k ok hk hki hun hno => by
        refine hfree k ok hk hki ?_ hno
        by_cases hjk : j = k
        · subst hjk; exact hjun
        · rw [getD_set_ne true hjk] at hun; exact hun
      refine amOp_mono (fun σ2 h3 => ih (listed.setIfInBounds j true) σ2 (fun k hk => by
        have hjk : j ≠ k := by rintro rfl; exact hnot hk
        rw [getD_set_ne true hjk]; exact hun0 k hk) hfree' (ready_mono hr (Ne.symm hji)) (.inr trivial) ?_) h2
      rw [Array.setIfInBounds_comm _ _ hji]
      exact h3

theorem amAny_first {K : St → Prop} {i : Nat} {oi : Oper} (hi : all[i]? = some oi) {B : List Nat} (hB : ∀ j oj, j ∈ B → all[j]? = some oj → ∃ e ∈ oj.after, Region.binds .any e = true ∧ (e.on = i ∨ e.on ∈ B)) (fuel : Nat) (listed : Array Bool) (σ : St)
    (h0 : ∀ j, j ∈ B → listed.getD j true = false)
    (hf : ∀ j oj, all[j]? = some oj → j ≠ i → listed.getD j true = false → j ∉ B → oi.apart all oj = true ∧ pass oi oj = true)
    (hr : i ∈ Region.ready .any all listed) (hx : (¬ ∃ σ', K σ') ∨ True) (h : amOp P T G all i (amAny P T G all K fuel (listed.setIfInBounds i true)) σ) : amAny P T G all K (fuel + 1) listed σ :=
  amAny_firstT hi hB fuel listed σ h0 (fun j oj a b c d => ⟨(hf j oj a b c d).1, by unfold passT; rw [(hf j oj a b c d).2]; rfl⟩) hr hx h
/-- What waits for operation 'i'. -/
def waits (all : Array Oper) (i : Nat) : List Nat :=
  (List.range all.size).foldl (fun acc j => match all[j]? with
    | some oj => if oj.after.any (fun e => Region.binds .any e && (e.on == i || acc.contains e.on)) then acc ++ [j] else acc
    | none => acc) []
def mfreeP (p : Oper → Oper → Bool) (all : Array Oper) (listed : Array Bool) (i : Nat) (B : List Nat) : Bool :=
  match all[i]? with
  | none => false
  | some oi => (B.all fun j => !listed.getD j true && match all[j]? with
      | some oj => oj.after.any fun e => Region.binds .any e && (e.on == i || B.contains e.on)
      | none => false) && (List.range all.size).all fun j => j == i || listed.getD j true || B.contains j || match all[j]? with
      | some oj => oi.apart all oj && p oi oj
      | none => true
def mfreeB (all : Array Oper) (listed : Array Bool) (i : Nat) (B : List Nat) : Bool := mfreeP pass all listed i B
def mfree (all : Array Oper) (listed : Array Bool) (i : Nat) : Bool := mfreeB all listed i (waits all i)
def tfree (T : TT) (all : Array Oper) (listed : Array Bool) (i : Nat) : Bool := mfreeP (passT T) all listed i (waits all i)
theorem mfreeP_spec {p : Oper → Oper → Bool} {i : Nat} {oi : Oper} {listed : Array Bool} (hi : all[i]? = some oi) {B : List Nat} (h : mfreeP p all listed i B = true) :
    (∀ j oj, j ∈ B → all[j]? = some oj → ∃ e ∈ oj.after, Region.binds .any e = true ∧ (e.on = i ∨ e.on ∈ B)) ∧ (∀ j, j ∈ B → listed.getD j true = false) ∧
    ∀ j oj, all[j]? = some oj → j ≠ i → listed.getD j true = false → j ∉ B → oi.apart all oj = true ∧ p oi oj = true := by
  simp only [mfreeP, hi, Bool.and_eq_true, List.all_eq_true, List.mem_range] at h
  refine ⟨fun j oj hj hoj => ?_, fun j hj => by simpa using (h.1 j hj).1, fun j oj hoj hne hun hno => ?_⟩
  · have h1 := (h.1 j hj).2
    simp only [hoj] at h1
    obtain ⟨e, he, hb⟩ := Array.any_eq_true'.1 h1
    simp only [Bool.and_eq_true, Bool.or_eq_true, beq_iff_eq, List.contains_iff_mem] at hb
    exact ⟨e, he, hb.1, hb.2⟩
  · have h1 := h.2 j (Array.getElem?_eq_some_iff.1 hoj).1
    simp only [hoj, Bool.or_eq_true, beq_iff_eq, hne, false_or, hun, Bool.false_eq_true, Bool.and_eq_true, List.contains_iff_mem, hno] at h1
    exact h1
theorem mfree_spec {i : Nat} {oi : Oper} {listed : Array Bool} (hi : all[i]? = some oi) {B : List Nat} (h : mfreeB all listed i B = true) :
    (∀ j oj, j ∈ B → all[j]? = some oj → ∃ e ∈ oj.after, Region.binds .any e = true ∧ (e.on = i ∨ e.on ∈ B)) ∧ (∀ j, j ∈ B → listed.getD j true = false) ∧
    ∀ j oj, all[j]? = some oj → j ≠ i → listed.getD j true = false → j ∉ B → oi.apart all oj = true ∧ pass oi oj = true := mfreeP_spec hi h
/-- The operations may be taken in the order 'ord'. -/
def ordFrom (T : TT) (all : Array Oper) : List Nat → Array Bool → Bool
  | [], listed => (Region.ready .any all listed).isEmpty
  | i :: r, listed => (Region.ready .any all listed).contains i && tfree T all listed i && ordFrom T all r (listed.setIfInBounds i true)

/-- The operations in the order 'ord'. -/
def vOrd (P : Program) (T : TT) (G : Gl) (all : Array Oper) : List Nat → (St → Prop) → St → Prop
  | [], K, σ => K σ
  | i :: r, K, σ => match all[i]? with
    | some o => vOp P T G all o (vOrd P T G all r K) σ
    | none => False

theorem amAny_ord {K : St → Prop} : ∀ (ord : List Nat) (listed : Array Bool) (σ : St), ordFrom T all ord listed = true → vOrd P T G all ord K σ → amAny P T G all K ord.length listed σ
  | [], listed, σ, hB, h => ⟨by simpa [ordFrom] using hB, h⟩
  | i :: r, listed, σ, hB, h => by
    simp only [ordFrom, Bool.and_eq_true] at hB
    obtain ⟨⟨hr, hf⟩, hB'⟩ := hB
    unfold vOrd at h
    split at h
    case h_2 => cases h
    rename_i o hi
    obtain ⟨q1, q2, q3⟩ := mfreeP_spec hi hf
    refine amAny_firstT hi q1 r.length listed σ q2 q3 (by simpa using hr) (.inr trivial) ?_
    unfold amOp
    simp only [hi]
    exact vOp_mono (fun σ' hσ => amAny_ord r _ σ' hB' hσ) h

theorem wpAny_of_am {m : Mem} {fr : Frm} {N : Nat} (hT : TOk P T) {K : St → Prop} {Q : Exit → Act → World → Prop} (hdst : ∀ o ∈ all, ∀ d, o.dst = some d → d < N) : ∀ (fuel : Nat) (listed : Array Bool) (m : Mem) (ρ : Rho) (σ : St) (a : Act) (w : World),
    GOk G m → Den m fr ρ σ a w → N ≤ a.tmps.size → a.defers = [] → amAny P T G all K fuel listed σ → (∀ a' w', Rch N m fr ρ σ K a' w' → Q .normal a' w') → wpAny P .any all Q fuel listed a w
  | 0, listed, m, ρ, σ, a, w, hG, h, hN, hdf, hv, hQ => ⟨hv.1, hQ a w ⟨σ, m, ρ, hv.2, Mem.le_refl m, h, hN, hdf, Keep.refl _ _⟩⟩
  | fuel + 1, listed, m, ρ, σ, a, w, hG, h, hN, hdf, hv, hQ => by
    refine ⟨fun h0 => hQ a w ⟨σ, m, ρ, hv.1 h0, Mem.le_refl m, h, hN, hdf, Keep.refl _ _⟩, fun i hi => ?_⟩
    have h1 := hv.2 i hi
    obtain ⟨_, o, ho, _⟩ := mem_ready.1 hi
    unfold amOp at h1
    simp only [ho] at h1
    refine wpOp_mono ?_ (vOp_ok hT hG h hN hdf ho (hdst o (Array.mem_of_getElem? ho)) h1)
    rintro a' w' ⟨σ', m', ρ', q1, q2, q3, q4, q5, q6⟩
    refine wpAny_of_am (m := m) hT hdst fuel _ m' ρ' σ' a' w' (hG.mono q2) q3 q4 q5 q1 ?_
    rintro a'' w'' ⟨σ'', m'', ρ'', p1, p2, p3, p4, p5, p6⟩
    exact hQ a'' w'' ⟨σ'', m'', ρ'', p1, Mem.le_trans q2 p2, p3, p4, p5, q6.trans p6⟩
end
end Go.Am
namespace Go.Am
set_option linter.unusedVariables false

/-- From state σ to state τ without a step: τ says less, or says it otherwise. -/
def Ent (σ τ : St) : Prop := ∀ m fr ρ a w, Den m fr ρ σ a w → ∃ m' ρ', m.le m' ∧ Den m' fr ρ' τ a w ∧ Keep σ ρ τ ρ'
theorem Ent.refl (σ : St) : Ent σ σ := fun m fr ρ a w h => ⟨m, ρ, Mem.le_refl m, h, Keep.refl _ _⟩
theorem Ent.trans {σ τ υ : St} (h : Ent σ τ) (h' : Ent τ υ) : Ent σ υ := fun m fr ρ a w hD =>
  let ⟨m1, ρ1, h1, h2, h3⟩ := h m fr ρ a w hD
  let ⟨m2, ρ2, h4, h5, h6⟩ := h' m1 fr ρ1 a w h2
  ⟨m2, ρ2, Mem.le_trans h1 h4, h5, h3.trans h6⟩

def AWp (P : Program) (T : TT) (G : Gl) (N : Nat) (c : Code) (σ : St) (Q : Exit → St → Prop) : Prop :=
  ∀ m fr ρ a w, GOk G m → Den m fr ρ σ a w → N ≤ a.tmps.size → a.defers = [] → c.wp P (fun e a' w' => Rch N m fr ρ σ (Q e) a' w') a w

def thenQ (K : St → Prop) (Q : Exit → St → Prop) : Exit → St → Prop
  | .normal, σ => K σ
  | e, σ => Q e σ
def inBlockQ (id : Nat) (Q : Exit → St → Prop) : Exit → St → Prop
  | .exit id', σ => if id' = id then Q .normal σ else Q (.exit id') σ
  | e, σ => Q e σ

section
variable {P : Program} {T : TT} {G : Gl} {N : Nat} {σ : St} {Q : Exit → St → Prop}

theorem Rch.mono {m : Mem} {fr : Frm} {ρ : Rho} {K K' : St → Prop} (hk : ∀ σ, K σ → K' σ) {a : Act} {w : World} (h : Rch N m fr ρ σ K a w) : Rch N m fr ρ σ K' a w :=
  let ⟨σ', m', ρ', h1, h2⟩ := h; ⟨σ', m', ρ', hk _ h1, h2⟩

theorem awp_mono {c : Code} {Q' : Exit → St → Prop} (h : AWp P T G N c σ Q) (hq : ∀ e σ, Q e σ → Q' e σ) : AWp P T G N c σ Q' :=
  fun m fr ρ a w hG hD hN hd => wp_mono (h m fr ρ a w hG hD hN hd) fun e a' w' hr => hr.mono (hq e)
theorem awp_skip (h : Q .normal σ) : AWp P T G N .skip σ Q := fun m fr ρ a w hG hD hN hd => wp_skip ⟨σ, m, ρ, h, Mem.le_refl m, hD, hN, hd, Keep.refl _ _⟩
theorem awp_label {l : Nat} (h : Q .normal σ) : AWp P T G N (.label l) σ Q := fun m fr ρ a w hG hD hN hd => wp_label ⟨σ, m, ρ, h, Mem.le_refl m, hD, hN, hd, Keep.refl _ _⟩
theorem awp_exit {id : Nat} (h : Q (.exit id) σ) : AWp P T G N (.exit id) σ Q := fun m fr ρ a w hG hD hN hd => wp_exit ⟨σ, m, ρ, h, Mem.le_refl m, hD, hN, hd, Keep.refl _ _⟩
theorem awp_ret (h : Q .ret σ) : AWp P T G N .ret σ Q := fun m fr ρ a w hG hD hN hd => wp_ret ⟨σ, m, ρ, h, Mem.le_refl m, hD, hN, hd, Keep.refl _ _⟩

theorem Rch.trans {m m1 : Mem} {fr : Frm} {ρ ρ1 : Rho} {σ1 : St} {K : St → Prop} {a : Act} {w : World} (hm : m.le m1) (hk : Keep σ ρ σ1 ρ1) (h : Rch N m1 fr ρ1 σ1 K a w) : Rch N m fr ρ σ K a w :=
  let ⟨σ', m', ρ', h1, h2, h3, h4, h5, h6⟩ := h; ⟨σ', m', ρ', h1, Mem.le_trans hm h2, h3, h4, h5, hk.trans h6⟩

theorem awp_seq {x y : Code} (h : AWp P T G N x σ (thenQ (fun σ' => AWp P T G N y σ' Q) Q)) : AWp P T G N (.seq x y) σ Q := by
  intro m fr ρ a w hG hD hN hd
  refine wp_seq (wp_mono (h m fr ρ a w hG hD hN hd) ?_)
  rintro e a' w' ⟨σ', m', ρ', h1, h2, h3, h4, h5, h6⟩
  cases e with
  | normal => exact wp_mono (h1 m' fr ρ' a' w' (hG.mono h2) h3 h4 h5) fun e a'' w'' hr => hr.trans h2 h6
  | exit id => exact ⟨σ', m', ρ', h1, h2, h3, h4, h5, h6⟩
  | goto l => exact ⟨σ', m', ρ', h1, h2, h3, h4, h5, h6⟩
  | ret => exact ⟨σ', m', ρ', h1, h2, h3, h4, h5, h6⟩
  | panic c => exact ⟨σ', m', ρ', h1, h2, h3, h4, h5, h6⟩
  | outgrown => exact ⟨σ', m', ρ', h1, h2, h3, h4, h5, h6⟩

def noGo (Q : Exit → St → Prop) : Exit → St → Prop
  | .goto _, _ => False
  | e, σ => Q e σ
theorem awp_scope {c : Code} (h : AWp P T G N c σ (noGo Q)) : AWp P T G N (.scope c) σ Q := by
  intro m fr ρ a w hG hD hN hd
  refine wp_scope_straight (wp_mono (h m fr ρ a w hG hD hN hd) ?_)
  rintro e a' w' ⟨σ', m', ρ', h1, h2, h3, h4, h5, h6⟩
  cases e with
  | goto l => exact h1.elim
  | normal => exact ⟨σ', m', ρ', h1, h2, h3, h4, h5, h6⟩
  | exit id => exact ⟨σ', m', ρ', h1, h2, h3, h4, h5, h6⟩
  | ret => exact ⟨σ', m', ρ', h1, h2, h3, h4, h5, h6⟩
  | panic c => exact ⟨σ', m', ρ', h1, h2, h3, h4, h5, h6⟩
  | outgrown => exact ⟨σ', m', ρ', h1, h2, h3, h4, h5, h6⟩
theorem awp_cond {c : Operand} {x y : Code} {b : Bool} (hc : evA G σ.slots c = .d (.val (.bool b))) (h : if b = true then AWp P T G N x σ Q else AWp P T G N y σ Q) : AWp P T G N (.cond c x y) σ Q := by
  intro m fr ρ a w hG hD hN hd
  have hv := evA_ok (a := a) hG hD.slots c
  rw [hc] at hv
  refine wp_cond hv.inv_val ?_
  cases b
  · exact h m fr ρ a w hG hD hN hd
  · exact h m fr ρ a w hG hD hN hd

theorem awp_block {id : Nat} {c : Code} (h : AWp P T G N c σ (inBlockQ id Q)) : AWp P T G N (.block id c) σ Q := by
  intro m fr ρ a w hG hD hN hd
  refine wp_block (wp_mono (h m fr ρ a w hG hD hN hd) ?_)
  intro e a' w' hr
  cases e with
  | exit id' =>
    simp only [Exit.inBlock]
    by_cases hi : id' = id
    · rw [if_pos hi]
      exact hr.mono fun σ hq => by simp only [inBlockQ, hi, if_true] at hq; exact hq
    · rw [if_neg hi]
      exact hr.mono fun σ hq => by simp only [inBlockQ, hi, if_false] at hq; exact hq
  | normal => exact hr
  | goto l => exact hr
  | ret => exact hr
  | panic c => exact hr
  | outgrown => exact hr

theorem awp_ent {τ : St} {c : Code} (he : Ent σ τ) (h : AWp P T G N c τ Q) : AWp P T G N c σ Q := by
  intro m fr ρ a w hG hD hN hd
  obtain ⟨m', ρ', h1, h2, h3⟩ := he m fr ρ a w hD
  exact wp_mono (h m' fr ρ' a w (hG.mono h1) h2 hN hd) fun e a' w' hr => hr.trans h1 h3

def dstOk (N : Nat) (ops : Array Oper) : Bool := ops.toList.all fun o => match o.dst with
  | some d => decide (d < N)
  | none => true
theorem dstOk_spec {ops : Array Oper} (h : dstOk N ops = true) : ∀ o ∈ ops, ∀ d, o.dst = some d → d < N := by
  intro o ho d hd
  have := List.all_eq_true.1 h o (by simpa using ho)
  simp only [hd] at this
  simpa using this

theorem Den.drew {m : Mem} {fr : Frm} {ρ : Rho} {a : Act} {w : World} (h : Den m fr ρ σ a w) (n : Nat) : Den m fr ρ σ a { w with drawn := n } := by
  refine ⟨h.mem, ⟨h.frame.keep, h.frame.quiet.same rfl rfl rfl⟩, h.apart, h.one, h.slots, ?_, h.own, h.sep⟩
  intro k o hk
  exact (h.objs k o hk).mono (Mem.le_refl m) (fun _ hu => ⟨hu, rfl⟩) (fun b _ _ => rfl)

theorem awp_region_draw (hT : TOk P T) (hm : P.follows .mixedOrders = true) {id : Nat} {ops : Array Oper} (hN : dstOk N ops = true) (ord : List Nat) (hlen : ord.length = ops.size) (hord : ordFrom T ops ord (Array.replicate ops.size false) = true)
    (h : vOrd P T G ops ord (Q .normal) σ) : AWp P T G N (.region id ops true) σ Q := by
  intro m fr ρ a w hG hD hNa hd
  refine wp_region_any hm ?_
  have h1 := amAny_ord ord (Array.replicate ops.size false) σ hord h
  rw [hlen] at h1
  exact wpAny_of_am (m := m) (fr := fr) (N := N) (Q := fun e a' w' => Rch N m fr ρ σ (Q e) a' w') hT (dstOk_spec hN) ops.size _ m ρ σ a _ hG (hD.drew _) hNa hd h1 (fun a' w' hr => hr)

theorem wp_loop_ix {ι : Type} {c : Code} {Q : Exit → Act → World → Prop} {a : Act} {w : World} (I : ι → Act → World → Prop) (μ : ι → Nat) (i0 : ι) (h₀ : I i0 a w)
    (round : ∀ i a w, I i a w → c.wp P (Exit.then (fun a' w' => ∃ j, I j a' w' ∧ μ j < μ i) Q) a w) : (Code.loop c).wp P Q a w := by
  intro b k cs
  have key : ∀ n i a w, μ i = n → I i a w → ∃ e a' w', Q e a' w' ∧ Arrives P (lone (b.at a (.code c :: .inLoop c :: k)) cs w) b k cs e a' w' := by
    intro n
    induction n using Nat.strongRecOn with
    | _ n ih =>
      intro i a w hn hI
      obtain ⟨e, a₁, w₁, hq, harr⟩ := round i a w hI b (.inLoop c :: k) cs
      cases e with
      | normal =>
        obtain ⟨j, hI₁, hlt⟩ := hq
        obtain ⟨e₂, a₂, w₂, hq₂, harr₂⟩ := ih (μ j) (hn ▸ hlt) j a₁ w₁ rfl hI₁
        exact ⟨e₂, a₂, w₂, hq₂, .of_steps (Steps.trans harr (.one step_inLoop)) harr₂⟩
      | exit id => exact ⟨_, a₁, w₁, hq, .pass (x := .inLoop c) rfl (fun _ _ => .inl (by simp)) harr⟩
      | goto l => exact ⟨_, a₁, w₁, hq, .pass (x := .inLoop c) rfl (fun _ _ => .inl (by simp)) harr⟩
      | ret => exact ⟨_, a₁, w₁, hq, .pass (x := .inLoop c) rfl (fun _ _ => .inl (by simp)) harr⟩
      | panic ch => exact ⟨_, a₁, w₁, hq, .pass (x := .inLoop c) rfl (fun _ _ => .inl (by simp)) harr⟩
      | outgrown => exact ⟨_, a₁, w₁, hq, .pass (x := .inLoop c) rfl (fun _ _ => .inl (by simp)) harr⟩
  obtain ⟨e, a', w', hq, harr⟩ := key _ i0 a w rfl h₀
  exact ⟨e, a', w', hq, .of_steps (.one step_loop) harr⟩

theorem awp_loop {ι : Type} {c : Code} (I : ι → St) (μ : ι → Nat) (i0 : ι) (h0 : Ent σ (I i0))
    (round : ∀ i, AWp P T G N c (I i) (thenQ (fun σ' => ∃ j, Ent σ' (I j) ∧ μ j < μ i) Q)) : AWp P T G N (.loop c) σ Q := by
  intro m fr ρ a w hG hD hN hd
  refine wp_loop_ix (fun i a w => ∃ m1 ρ1, m.le m1 ∧ Den m1 fr ρ1 (I i) a w ∧ N ≤ a.tmps.size ∧ a.defers = [] ∧ Keep σ ρ (I i) ρ1) μ i0 ?_ ?_
  · obtain ⟨m', ρ', h1, h2, h3⟩ := h0 m fr ρ a w hD
    exact ⟨m', ρ', h1, h2, hN, hd, h3⟩
  · rintro i a1 w1 ⟨m1, ρ1, g1, g2, g3, g4, g5⟩
    refine wp_mono (round i m1 fr ρ1 a1 w1 (hG.mono g1) g2 g3 g4) ?_
    intro e a' w' hr
    have hr' := hr.trans g1 g5
    cases e with
    | normal =>
      obtain ⟨σ', m', ρ', ⟨j, hj, hlt⟩, h2, h3, h4, h5, h6⟩ := hr'
      obtain ⟨m2, ρ2, q1, q2, q3⟩ := hj m' fr ρ' a' w' h3
      exact ⟨j, ⟨m2, ρ2, Mem.le_trans h2 q1, q2, h4, h5, h6.trans q3⟩, hlt⟩
    | exit id => exact hr'
    | goto l => exact hr'
    | ret => exact hr'
    | panic c => exact hr'
    | outgrown => exact hr'

/-! ### A function's body -/
def resOne (T : TT) (σ : St) : ResultVar → Option AV
  | .tmp t => some (σ.slots t)
  | .cell a t => match T t, σ.slots a with
    | some i, .ptr k off => match σ.objs k with
      | some (.box cells) => pickA i cells off
      | _ => none
    | _, _ => none
def resA (T : TT) (σ : St) (rs : List ResultVar) : Option AV :=
  match allSome (rs.map (resOne T σ)) with
  | some [x] => some x
  | some l => some (.tup l)
  | none => none

theorem resOne_ok (hT : TOk P T) {m : Mem} {fr : Frm} {ρ : Rho} {a : Act} {w : World} (h : Den m fr ρ σ a w) {rv : ResultVar} {x : AV} (hx : resOne T σ rv = some x) :
    ∃ v, ((match rv with
      | .tmp t => pure (a.tmps.getD t undef)
      | .cell ad t => do loadVar t (← asAddr (a.tmps.getD ad undef)) : Sem Value)).run P w = .ok v w ∧ AR m ρ σ.used x v := by
  cases rv with
  | tmp t => simp only [resOne, Option.some.injEq] at hx; subst hx; exact ⟨_, rfl, h.slots t⟩
  | cell ad t =>
    simp only [resOne] at hx
    split at hx
    case h_2 => cases hx
    rename_i i k off ht hs
    split at hx
    case h_2 => cases hx
    rename_i cells hk
    have ha := h.slots ad
    rw [hs] at ha
    generalize hva : a.tmps.getD ad undef = u at ha
    cases ha with | ptr _ _ b hu hr =>
    obtain ⟨b', vs, T', e1, e2, e3, e4⟩ := h.objs _ _ hk
    rw [hr] at e1
    cases e1
    obtain ⟨v, r1, r2⟩ := loadA_ok (P := P) hT ht e2 ⟨e3, e4⟩ hx
    exact ⟨v, by simp only [hva, asAddr, Sem.run_bind, Sem.run_pure, Result.andThen_ok, r1], r2⟩

theorem resL_ok (hT : TOk P T) {m : Mem} {fr : Frm} {ρ : Rho} {a : Act} {w : World} (h : Den m fr ρ σ a w) : ∀ (rs : List ResultVar) (xs : List AV), allSome (rs.map (resOne T σ)) = some xs →
    ∃ vs : List Value, (rs.mapM fun
      | .tmp t => pure (a.tmps.getD t undef)
      | .cell ad t => do loadVar t (← asAddr (a.tmps.getD ad undef)) : Sem (List Value)).run P w = .ok vs w ∧ vs.length = xs.length ∧ ∀ (i : Nat) (x : AV) (v : Value), xs[i]? = some x → vs[i]? = some v → AR m ρ σ.used x v
  | [], xs, hx => by simp [allSome] at hx; subst hx; exact ⟨[], by simp, rfl, by simp⟩
  | rv :: rs, xs, hx => by
    simp only [List.map_cons] at hx
    cases h1 : resOne T σ rv with
    | none => simp [h1, allSome] at hx
    | some x =>
      rw [h1] at hx
      simp only [allSome] at hx
      split at hx
      case h_2 => cases hx
      rename_i l hl
      cases hx
      obtain ⟨v, r1, r2⟩ := resOne_ok (P := P) hT h h1
      obtain ⟨vs, r3, r4, r5⟩ := resL_ok hT h rs l hl
      refine ⟨v :: vs, ?_, by simp [r4], ?_⟩
      · simp only [List.mapM_cons, Sem.run_bind, r1, r3, Result.andThen_ok, Sem.run_pure]
      · intro i y u hy hu
        cases i with
        | zero => simp at hy hu; subst hy; subst hu; exact r2
        | succ i => exact r5 i y u (by simpa using hy) (by simpa using hu)

theorem resA_ok (hT : TOk P T) {m : Mem} {fr : Frm} {ρ : Rho} {a : Act} {w : World} (h : Den m fr ρ σ a w) {fn : Func} {x : AV} (hx : resA T σ fn.results.toList = some x) :
    ∃ v, (results fn a.tmps).run P w = .ok v w ∧ AR m ρ σ.used x v := by
  unfold resA at hx
  cases hl : allSome (fn.results.toList.map (resOne T σ)) with
  | none => simp [hl] at hx
  | some xs =>
    obtain ⟨vs, r1, r2, r3⟩ := resL_ok (P := P) hT h fn.results.toList xs hl
    have hrun : ((fn.results.mapM fun
      | .tmp t => pure (a.tmps.getD t undef)
      | .cell ad t => do loadVar t (← asAddr (a.tmps.getD ad undef)) : Sem (Array Value))).run P w = .ok vs.toArray w := by
      rw [Array.mapM_eq_mapM_toList, Sem.run_map, r1]
      rfl
    have hres : (results fn a.tmps).run P w = .ok (if h : vs.toArray.size = 1 then vs.toArray[0] else .tuple vs.toArray) w := by
      unfold results
      rw [Sem.run_bind]
      exact (congrArg (fun r => Result.andThen r _) hrun).trans rfl
    rw [hres]
    rw [hl] at hx
    split at hx
    · rename_i y he
      cases hx
      cases he
      match vs, r2, r3 with
      | [v], _, r3 => exact ⟨v, by simp, r3 0 _ _ rfl rfl⟩
    · rename_i l hne he
      cases hx
      cases he
      have hsz : vs.toArray.size ≠ 1 := by
        intro h1
        have : xs.length = 1 := by rw [← r2]; simpa using h1
        obtain ⟨y, hy⟩ := List.length_eq_one_iff.1 this
        exact hne y hy
      refine ⟨.tuple vs.toArray, ?_, .tup _ _ (by simpa using r2) (fun i c v hc hv => r3 i c v hc (by simpa using hv))⟩
      rw [dif_neg hsz]
    · cases hx

def start (args : List AV) (E : Objs) : St := ⟨fun t => args.getD t .any, E⟩

theorem pcalls_of_awp (hT : TOk P T) {f : FuncId} {fn : Func} {c : Code} {ds : List D} {R : D → Prop} (hf : P.funcs[f]? = some fn) (hb : fn.body = some c) (hname : (fn.name == "runtime.NumGoroutine") = false) (hlen : ds.length ≤ fn.ntmps)
    (h : AWp P T G fn.ntmps c (start (ds.map .d) fun _ => none) fun e σ' => (e = .normal ∨ e = .ret) ∧ ∃ r d x, resA T σ' fn.results.toList = some r ∧ toD σ'.objs r = some d ∧ d.le x ∧ R x) : PCalls P G f ds R := by
  refine ⟨⟨fn, hf, hname, by rw [hb]; rfl⟩, ?_⟩
  intro m fr w vs hG hM hD
  refine calls_of_wp hf hb ?_
  have hden : Den m fr (fun _ => undef) (start (ds.map .d) fun _ => none) { tmps := vs.toArray ++ Array.replicate (fn.ntmps - vs.toArray.size) undef, defers := [] } w := by
    refine ⟨hM.mem, hM.frame, hM.apart, ?_, ?_, ?_, ?_, ?_⟩
    · rintro k ⟨o, ho⟩; cases ho
    · intro t
      simp only [start]
      by_cases ht : t < vs.length
      · have hlt : t < ds.length := by rw [← hD.1]; exact ht
        have hd := List.getElem?_eq_getElem hlt
        have hv := List.getElem?_eq_getElem ht
        have e1 : (ds.map AV.d).getD t .any = .d ds[t] := by rw [List.getD_eq_getElem?_getD, List.getElem?_map, hd]; rfl
        have e2 : (vs.toArray ++ Array.replicate (fn.ntmps - vs.toArray.size) undef).getD t undef = vs[t] := by
          rw [Array.getD_eq_getD_getElem?, Array.getElem?_append_left (by simpa using ht)]
          simp [ht]
        rw [e1, e2]
        exact .d _ _ (hD.2 t _ _ hd hv)
      · have e1 : (ds.map AV.d).getD t .any = .any := by rw [List.getD_eq_getElem?_getD, List.getElem?_eq_none (by simp; rw [← hD.1]; omega)]; rfl
        rw [e1]
        exact .any _
    · intro k o hk; cases hk
    · intro k o b hk; cases hk
    · intro k k' o o' b _ hk; cases hk
  have hsz : fn.ntmps ≤ (vs.toArray ++ Array.replicate (fn.ntmps - vs.toArray.size) undef).size := by simp; omega
  refine wp_mono (h m fr _ _ w hG hden hsz rfl) ?_
  rintro e a' w' ⟨σ', m', ρ', ⟨he, r, d, x, h1, h2, h3, h4⟩, h5, h6, h7, h8, h9⟩
  obtain ⟨v, q1, q2⟩ := resA_ok (P := P) hT h6 h1
  have q3 := h3 _ _ (toD_ok h6 q2 h2)
  have fin : a'.defers = [] ∧ ∃ v, (results fn a'.tmps).run P w' = .ok v w' ∧ ∃ v1 m1 r1, Ending.returned v = .returned v1 ∧ R r1 ∧ m.le m1 ∧ MemOK m1 fr w' ∧ DR m1 r1 v1 :=
    ⟨h8, v, q1, v, Den.all m' ρ' σ'.objs w', x, rfl, h4, Mem.le_trans h5 (Den.all_le _ _ _ _), h6.all_ok, q3⟩
  rcases he with rfl | rfl
  · exact fin
  · exact fin
end
end Go.Am
namespace Go.Am
set_option linter.unusedVariables false

def dAll : List AV → Option (List D)
  | [] => some []
  | .d x :: r => (dAll r).map (x :: ·)
  | _ => none
/-- A value that is data, told part by part perhaps. -/
def asD : AV → Option D
  | .d x => some x
  | .agg cs => (dAll cs).map .agg
  | .tup cs => (dAll cs).map .tup
  | _ => none
theorem dAll_map : ∀ {cs : List AV} {ds : List D}, dAll cs = some ds → cs = ds.map .d
  | [], ds, h => by cases h; rfl
  | .d x :: r, ds, h => by
    obtain ⟨l, hl, rfl⟩ := Option.map_eq_some_iff.1 h
    rw [dAll_map hl]; rfl
  | .any :: _, _, h => by cases h
  | .agg _ :: _, _, h => by cases h
  | .tup _ :: _, _, h => by cases h
  | .rp _ _ :: _, _, h => by cases h
  | .ptr _ _ :: _, _, h => by cases h
  | .ep _ _ _ _ :: _, _, h => by cases h
  | .row _ :: _, _, h => by cases h
  | .sub _ _ _ _ :: _, _, h => by cases h
  | .map _ :: _, _, h => by cases h
  | .fn _ _ _ :: _, _, h => by cases h
theorem asD_ok {m : Mem} {ρ : Rho} {U : Key → Prop} {x : AV} {a : D} {v : Value} (h : asD x = some a) (hx : AR m ρ U x v) : DR m a v := by
  have part : ∀ {cs : List AV} {ds : List D} {vs : Array Value}, dAll cs = some ds → vs.size = cs.length → (∀ (i : Nat) (c : AV) (v : Value), cs[i]? = some c → vs[i]? = some v → AR m ρ U c v) →
      vs.size = ds.length ∧ ∀ (i : Nat) (c : D) (v : Value), ds[i]? = some c → vs[i]? = some v → DR m c v := by
    intro cs ds vs hd hl hc
    have e := dAll_map hd
    subst e
    refine ⟨by simpa using hl, fun i c v h1 h2 => ?_⟩
    have := hc i (.d c) v (by simp [h1]) h2
    cases this with | d _ _ h => exact h
  unfold asD at h
  split at h
  · cases h; cases hx with | d _ _ h => exact h
  · obtain ⟨ds, hd, rfl⟩ := Option.map_eq_some_iff.1 h
    cases hx with | agg _ vs hl hc => exact .agg _ _ (part hd hl hc).1 (part hd hl hc).2
  · obtain ⟨ds, hd, rfl⟩ := Option.map_eq_some_iff.1 h
    cases hx with | tup _ vs hl hc => exact .tup _ _ (part hd hl hc).1 (part hd hl hc).2
  · cases h
/-- 'y' says no more than 'x'; the name k of y's is the name (θ k) of x's. -/
def AvLe0 (θ : Key → Key) (U : Key → Prop) (x y : AV) : Prop :=
  match y with
  | .any => True
  | .d b => ∃ a, asD x = some a ∧ a.le b
  | .rp cs off => x = .rp cs off ∨ x = .d (.ref cs off)
  | .ptr k off => x = .ptr (θ k) off ∧ U k
  | .ep k kk i off => x = .ep (θ k) kk i off ∧ U k
  | .row k => x = .row (θ k) ∧ U k
  | .sub k kk i len => x = .sub (θ k) kk i len ∧ U k
  | .map k => x = .map (θ k) ∧ U k
  | _ => False
def AllLe0 (θ : Key → Key) (U : Key → Prop) : List AV → List AV → Prop
  | [], [] => True
  | x :: xs, y :: ys => AvLe0 θ U x y ∧ AllLe0 θ U xs ys
  | _, _ => False
def AvLe (θ : Key → Key) (U : Key → Prop) (x y : AV) : Prop :=
  match y with
  | .agg ys => match x with
    | .agg xs => AllLe0 θ U xs ys
    | .d (.agg ds) => AllLe0 θ U (ds.map .d) ys
    | _ => False
  | .tup ys => match x with
    | .tup xs => AllLe0 θ U xs ys
    | _ => False
  | .fn f as bs => match x with
    | .fn f' as' bs' => f = f' ∧ AllLe0 θ U as' as ∧ AllLe0 θ U bs' bs
    | _ => False
  | y => AvLe0 θ U x y

def AllLe (θ : Key → Key) (U : Key → Prop) : List AV → List AV → Prop
  | [], [] => True
  | x :: xs, y :: ys => AvLe θ U x y ∧ AllLe θ U xs ys
  | _, _ => False

section
variable {m : Mem} {ρ : Rho} {U0 U : Key → Prop} {θ : Key → Key}
theorem AvLe0.ok {x y : AV} (h : AvLe0 θ U x y) {v : Value} (hx : AR m ρ U0 x v) : AR m (fun k => ρ (θ k)) U y v := by
  unfold AvLe0 at h
  split at h
  · exact .any _
  · obtain ⟨a, ha, hle⟩ := h
    exact .d _ _ (hle _ _ (asD_ok ha hx))
  · rcases h with rfl | rfl
    · cases hx with | rp _ _ b o vs T fz hm xs h1 h2 => exact .rp _ _ b o vs T fz hm xs h1 h2
    · cases hx.inv_d with | ref _ _ b o vs T fz hm xs h1 h2 => exact .rp _ _ b o vs T fz hm xs h1 h2
  · obtain ⟨rfl, hu⟩ := h
    cases hx with | ptr _ _ b _ hr => exact .ptr _ _ b hu hr
  · obtain ⟨rfl, hu⟩ := h
    cases hx with | ep _ _ _ _ b o len cap _ hr => exact .ep _ _ _ _ b o len cap hu hr
  · obtain ⟨rfl, hu⟩ := h
    cases hx
    exact .row (ρ := fun k => ρ (θ k)) _ hu
  · obtain ⟨rfl, hu⟩ := h
    cases hx with
    | sub _ _ _ _ b o L cap a _ hr hle ha => exact .sub _ _ _ _ b o L cap a hu hr hle ha
    | sub0 _ _ _ _ hr => exact .sub0 _ _ _ hu hr
  · obtain ⟨rfl, hu⟩ := h
    cases hx
    exact .map (ρ := fun k => ρ (θ k)) _ hu
  · cases h
theorem AllLe0.ok : ∀ {xs ys : List AV}, AllLe0 θ U xs ys → ys.length = xs.length ∧ ∀ (i : Nat) (y : AV), ys[i]? = some y → ∃ x, xs[i]? = some x ∧ AvLe0 θ U x y
  | [], [], _ => ⟨rfl, by simp⟩
  | x :: xs, y :: ys, h => by
    have ih := AllLe0.ok h.2
    refine ⟨by simp [ih.1], ?_⟩
    intro i z hz
    cases i with
    | zero => simp at hz; subst hz; exact ⟨x, rfl, h.1⟩
    | succ i => simp at hz; obtain ⟨w, h1, h2⟩ := ih.2 i z hz; exact ⟨w, by simpa using h1, h2⟩
  | [], y :: ys, h => h.elim
  | x :: xs, [], h => h.elim
theorem AllLe0.cells {xs ys : List AV} {vs : Array Value} (h : AllLe0 θ U xs ys) (hx : CellsR m ρ U0 xs vs) : CellsR m (fun k => ρ (θ k)) U ys vs := by
  obtain ⟨h1, h2⟩ := h.ok
  refine ⟨by rw [hx.1, h1], ?_⟩
  intro i y v hy hv
  obtain ⟨x, h3, h4⟩ := h2 i y hy
  exact h4.ok (hx.2 i x v h3 hv)
theorem AvLe.ok {x y : AV} (h : AvLe θ U x y) {v : Value} (hx : AR m ρ U0 x v) : AR m (fun k => ρ (θ k)) U y v := by
  unfold AvLe at h
  split at h
  · rename_i ys
    split at h
    · rename_i xs
      obtain ⟨vs, rfl, hc⟩ := hx.inv_aggA
      have := AllLe0.cells h hc
      exact .agg _ _ this.1 this.2
    · rename_i ds
      obtain ⟨vs, rfl, hl, hc⟩ := hx.inv_agg
      have h0 : CellsR m ρ U0 (ds.map .d) vs := ⟨by simpa using hl, by
        intro i c v hc' hv
        simp only [List.getElem?_map, Option.map_eq_some_iff] at hc'
        obtain ⟨z, hz, rfl⟩ := hc'
        exact .d _ _ (hc i z v hz hv)⟩
      have := AllLe0.cells h h0
      exact .agg _ _ this.1 this.2
    · cases h
  · split at h
    · obtain ⟨vs, rfl, hc⟩ := hx.inv_tupA
      have := AllLe0.cells h hc
      exact .tup _ _ this.1 this.2
    · cases h
  · split at h
    · obtain ⟨rfl, h1, h2⟩ := h
      cases hx with | fn _ _ _ vs ws hl hl' g g' =>
      have a := AllLe0.cells (U := U) h1 ⟨hl, g⟩
      have b := AllLe0.cells (U := U) h2 ⟨hl', g'⟩
      exact .fn _ _ _ vs ws a.1 b.1 a.2 b.2
    · cases h
  · exact h.ok hx
end

theorem AllLe.ok {θ : Key → Key} {U : Key → Prop} : ∀ {xs ys : List AV}, AllLe θ U xs ys → ys.length = xs.length ∧ ∀ (i : Nat) (y : AV), ys[i]? = some y → ∃ x, xs[i]? = some x ∧ AvLe θ U x y
  | [], [], _ => ⟨rfl, by simp⟩
  | x :: xs, y :: ys, h => by
    have ih := AllLe.ok h.2
    refine ⟨by simp [ih.1], ?_⟩
    intro i z hz
    cases i with
    | zero => simp at hz; subst hz; exact ⟨x, rfl, h.1⟩
    | succ i => simpa using ih.2 i z (by simpa using hz)
  | [], y :: ys, h => h.elim
  | x :: xs, [], h => h.elim
theorem AllLe.cells {m : Mem} {ρ : Rho} {U0 U : Key → Prop} {θ : Key → Key} {xs ys : List AV} {vs : Array Value} (h : AllLe θ U xs ys) (hx : CellsR m ρ U0 xs vs) : CellsR m (fun k => ρ (θ k)) U ys vs := by
  obtain ⟨h1, h2⟩ := h.ok
  refine ⟨by rw [hx.1, h1], ?_⟩
  intro i y v hy hv
  obtain ⟨x, h3, h4⟩ := h2 i y hy
  exact h4.ok (hx.2 i x v h3 hv)

def RowLe (es fs : List (List D)) : Prop := es = fs ∨ (es.length = fs.length ∧ ∀ (i : Nat) (x y : List D), es[i]? = some x → fs[i]? = some y → x.length = y.length ∧ y.all D.one = true ∧ ∀ (j : Nat) (a b : D), x[j]? = some a → y[j]? = some b → a.le b)
def ObLe (θ : Key → Key) (U : Key → Prop) (x y : Ob) : Prop :=
  match y with
  | .dead => True
  | .box ys => ∃ xs, x = .box xs ∧ AllLe θ U xs ys
  | .row k fs => ∃ es, x = .row k es ∧ RowLe es fs
  | .map es => x = .map es

theorem RowLe.ok {m : Mem} {ρ ρ' : Rho} {U U' : Key → Prop} {k : Nat} {es fs : List (List D)} (h : RowLe es fs) {v : Value} {w : World} (hx : ObR m ρ U v w (.row k es)) : ObR m ρ' U' v w (.row k fs) := by
  rcases h with rfl | ⟨hl, h⟩
  · exact hx
  · rcases hx with ⟨e1, rfl⟩ | ⟨b, o, cap, vs, T, e1, e2, e3, e4, e5, e6⟩
    · exact .inl ⟨e1, List.eq_nil_of_length_eq_zero (by rw [← hl]; rfl)⟩
    · have key : ∀ (i : Nat) (y : List D), fs[i]? = some y → ∃ x, es[i]? = some x ∧ x.length = y.length ∧ y.all D.one = true ∧ ∀ (j : Nat) (a b : D), x[j]? = some a → y[j]? = some b → a.le b := by
        intro i y hy
        have hi : i < es.length := by rw [hl]; exact (List.getElem?_eq_some_iff.1 hy).1
        exact ⟨_, List.getElem?_eq_getElem hi, h i _ y (List.getElem?_eq_getElem hi) hy⟩
      refine .inr ⟨b, o, cap, vs, T, by rw [← hl]; exact e1, e2, by omega, e4, ?_, ?_⟩
      · intro y hy
        obtain ⟨i, hi⟩ := List.mem_iff_getElem?.1 hy
        obtain ⟨x, h1, h2, h3, _⟩ := key i y hi
        exact ⟨by rw [← h2]; exact (e5 x (List.mem_of_getElem? h1)).1, h3⟩
      · intro i y j c hi hj
        obtain ⟨x, h1, h2, _, h3⟩ := key i y hi
        have hjx : j < x.length := by rw [h2]; exact (List.getElem?_eq_some_iff.1 hj).1
        obtain ⟨z, g1, g2⟩ := e6 i x j _ h1 (List.getElem?_eq_getElem hjx)
        exact ⟨z, g1, h3 j _ c (List.getElem?_eq_getElem hjx) hj _ _ g2⟩

/-- A state by lists: what is not listed is not known. -/
def lookS : List (Nat × AV) → Nat → AV
  | [], _ => .any
  | (j, v) :: r, t => if t = j then v else lookS r t
def lookO : List (Key × Ob) → Key → Option Ob
  | [], _ => none
  | (j, o) :: r, k => if k = j then some o else lookO r k
def mkSt (ls : List (Nat × AV)) (lo : List (Key × Ob)) : St := ⟨lookS ls, lookO lo⟩

def AllSlots (θ : Key → Key) (U : Key → Prop) (σ : St) : List (Nat × AV) → Prop
  | [] => True
  | (t, v) :: r => AvLe θ U (σ.slots t) v ∧ AllSlots θ U σ r
def AllObjs (θ : Key → Key) (U : Key → Prop) (σ : St) : List (Key × Ob) → Prop
  | [] => True
  | (k, o) :: r => (∃ o', σ.objs (θ k) = some o' ∧ ObLe θ U o' o) ∧ AllObjs θ U σ r
theorem AllSlots.ok {θ : Key → Key} {U : Key → Prop} {σ : St} : ∀ {ls : List (Nat × AV)}, AllSlots θ U σ ls → ∀ t, AvLe θ U (σ.slots t) (lookS ls t)
  | [], _, t => trivial
  | (j, v) :: r, h, t => by
    unfold lookS
    split
    · rename_i e; subst e; exact h.1
    · exact AllSlots.ok h.2 t
theorem AllObjs.ok {θ : Key → Key} {U : Key → Prop} {σ : St} : ∀ {lo : List (Key × Ob)}, AllObjs θ U σ lo → ∀ k o, lookO lo k = some o → ∃ o', σ.objs (θ k) = some o' ∧ ObLe θ U o' o
  | [], _, k, o, h => by cases h
  | (j, x) :: r, h, k, o, hk => by
    unfold lookO at hk
    split at hk
    · rename_i e; subst e; cases hk; exact h.1
    · exact AllObjs.ok h.2 k o hk

/-- Names that are found by a list: else themselves. -/
def ren : List (Key × Key) → Key → Key
  | [], k => k
  | (a, b) :: r, k => if k = a then b else ren r k
def keysOf (lo : List (Key × Ob)) : List Key := lo.map (·.1)
/-- No two names become one. -/
def renOk (θ : Key → Key) : List Key → Bool
  | [] => true
  | k :: r => r.all (fun j => k == j || !(θ k == θ j)) && renOk θ r
theorem renOk_spec {θ : Key → Key} : ∀ {l : List Key}, renOk θ l = true → ∀ k j, k ∈ l → j ∈ l → θ k = θ j → k = j
  | [], _, k, j, h, _, _ => by cases h
  | x :: r, h, k, j, hk, hj, he => by
    simp only [renOk, Bool.and_eq_true, List.all_eq_true] at h
    rcases List.mem_cons.1 hk with rfl | hk'
    · rcases List.mem_cons.1 hj with rfl | hj'
      · rfl
      · have := h.1 j hj'
        simp at this
        rcases this with h1 | h1
        · exact h1
        · exact absurd he h1
    · rcases List.mem_cons.1 hj with rfl | hj'
      · have := h.1 k hk'
        simp at this
        rcases this with h1 | h1
        · exact h1.symm
        · exact absurd he.symm h1
      · exact renOk_spec h.2 k j hk' hj' he
theorem lookO_mem : ∀ {lo : List (Key × Ob)} {k : Key} {o : Ob}, lookO lo k = some o → k ∈ keysOf lo
  | [], k, o, h => by cases h
  | (j, x) :: r, k, o, h => by
    unfold lookO at h
    split at h
    · rename_i e; subst e; simp [keysOf]
    · have := lookO_mem h
      simp only [keysOf, List.map_cons, List.mem_cons] at this ⊢
      exact .inr this

/-- The listed state follows. The last two: boxes that came in are listed, under their own names. -/
theorem ent_list {σ : St} {ls : List (Nat × AV)} {lo : List (Key × Ob)} (l : List (Key × Key)) (hr : renOk (ren l) (keysOf lo) = true)
    (hs : AllSlots (ren l) (fun k => ∃ o, lookO lo k = some o) σ ls) (ho : AllObjs (ren l) (fun k => ∃ o, lookO lo k = some o) σ lo)
    (hk : ∀ k, 10000 ≤ k → isBox (σ.objs k) → isBox (lookO lo k) ∧ ren l k = k) : Ent σ (mkSt ls lo) := by
  intro m fr ρ a w h
  have hown : ∀ {o o' : Ob}, ObLe (ren l) (fun k => ∃ o, lookO lo k = some o) o' o → o.owns = true → o'.owns = true := by
    intro o o' hle ho
    cases o with
    | dead => cases ho
    | box => obtain ⟨xs, rfl, _⟩ := hle; rfl
    | row => obtain ⟨es, rfl, _⟩ := hle; rfl
    | map => cases hle; rfl
  refine ⟨m, fun k => ρ (ren l k), Mem.le_refl m, ⟨h.mem, h.frame, h.apart, ?_, ?_, ?_, ?_, ?_⟩, fun k hk' hb => ⟨(hk k hk' hb).1, by show ρ (ren l k) = ρ k; rw [(hk k hk' hb).2]⟩⟩
  · rintro k ⟨o, hko⟩
    obtain ⟨o', h1, _⟩ := ho.ok k o hko
    exact h.one _ ⟨o', h1⟩
  · intro t
    exact (hs.ok t).ok (h.slots t)
  · intro k o hko
    obtain ⟨o', h1, h2⟩ := ho.ok k o hko
    have h3 := h.objs _ _ h1
    cases o with
    | dead => trivial
    | box ys =>
      obtain ⟨xs, rfl, hle⟩ := h2
      obtain ⟨b, vs, T, e1, e2, e3, e4⟩ := h3
      have := AllLe.cells hle ⟨e3, e4⟩
      exact ⟨b, vs, T, e1, e2, this.1, this.2⟩
    | row kk fs =>
      obtain ⟨es, rfl, hle⟩ := h2
      exact hle.ok h3
    | map es =>
      cases h2
      exact h3
  · intro k o b hko hown' hb
    obtain ⟨o', h1, h2⟩ := ho.ok k o hko
    exact h.own _ o' b h1 (hown h2 hown') hb
  · intro k k' o o' b hne hko hko' hown1 hown2 hb
    obtain ⟨x, h1, h2⟩ := ho.ok k o hko
    obtain ⟨x', h1', h2'⟩ := ho.ok k' o' hko'
    exact h.sep (ren l k) (ren l k') x x' b (fun e => hne (renOk_spec hr k k' (lookO_mem hko) (lookO_mem hko') e)) h1 h1' (hown h2 hown1) (hown h2' hown2) hb
end Go.Am
namespace Go.Am
set_option linter.unusedVariables false

def eqFs (P : Program) : Nat → List Field → Option (List TypeDesc)
  | _, [] => some []
  | off, f :: fs => if f.name ≠ "_" ∧ f.offset = off then (match P.underlying f.type with
    | some .bool => (eqFs P (off + 1) fs).map (.bool :: ·)
    | some (.int k) => (eqFs P (off + 1) fs).map (.int k :: ·)
    | some .string => (eqFs P (off + 1) fs).map (.string :: ·)
    | _ => none) else none
theorem eqFs_ok {P : Program} : ∀ {fs : List Field} {off : Nat} {l : List TypeDesc}, eqFs P off fs = some l → EqFs P off fs l
  | [], _, l, h => by cases h; trivial
  | f :: fs, off, l, h => by
    unfold eqFs at h
    split at h
    case isFalse => cases h
    rename_i h1
    split at h
    · rename_i hu
      obtain ⟨r, hr, rfl⟩ := Option.map_eq_some_iff.1 h
      exact ⟨h1.1, h1.2, hu, rfl, eqFs_ok hr⟩
    · rename_i hu
      obtain ⟨r, hr, rfl⟩ := Option.map_eq_some_iff.1 h
      exact ⟨h1.1, h1.2, hu, rfl, eqFs_ok hr⟩
    · rename_i hu
      obtain ⟨r, hr, rfl⟩ := Option.map_eq_some_iff.1 h
      exact ⟨h1.1, h1.2, hu, rfl, eqFs_ok hr⟩
    · cases h
def eqsOf (P : Program) (t : TypeId) : Option (List TypeDesc) := match P.underlying t with
  | some (.struct fs) => match eqFs P 0 fs.toList with
    | some l => if P.stoodInHeld t = false ∧ P.eqGuardType P.depth t = false then some l else none
    | none => none
  | _ => none
theorem eqsOf_ok {P : Program} {t : TypeId} {l : List TypeDesc} (h : eqsOf P t = some l) : EqT P t l := by
  unfold eqsOf at h
  split at h
  case h_2 => cases h
  rename_i fs hu
  have hf : P.fieldsOf t = fs := by simp [Program.fieldsOf, hu]
  split at h
  case h_2 => cases h
  rename_i l' hl
  split at h
  case isFalse => cases h
  rename_i hc
  cases h
  exact ⟨by rw [hf]; exact hu, hc.1, hc.2, by rw [hf]; exact eqFs_ok hl⟩
def infoOf (P : Program) (t : TypeId) : Option TI :=
  match P.underlying t, P.info? t with
  | some d, some i => match i.zero with
    | some z => if z.cells.size = i.size then some ⟨d, i.size, i.bytes, z⟩ else none
    | none => none
  | _, _ => none
def methOf (P : Program) (t : TypeId) (name : String) : Option FuncId := match P.info? t, P.underlying t with
  | some i, some d => match d with
    | .pointer _ => none
    | _ => match i.methods.find? (fun m => m.name == name) with
      | some m => match m.path.toList, m.func with
        | [], some (f, false) => some f
        | _, _ => none
      | none => none
  | _, _ => none
theorem methOf_ok {P : Program} {t : TypeId} {name : String} {f : FuncId} (h : methOf P t name = some f) : MethOk P t name f := by
  unfold methOf at h
  split at h
  case h_2 => cases h
  rename_i i d h1 h2
  split at h
  case h_1 => cases h
  rename_i hp
  split at h
  case h_2 => cases h
  rename_i m hm
  split at h
  case h_2 => cases h
  rename_i g h3 h4
  cases h
  exact ⟨i, m, d, h1, hm, h3, h4, h2, fun e he => hp e he⟩
def tiOf (P : Program) : TT := ⟨infoOf P, eqsOf P, fun _ => false, methOf P, []⟩
theorem tok (P : Program) : TOk P (tiOf P) := by
  constructor
  · intro t i h
    change infoOf P t = some i at h
    unfold infoOf at h
    split at h
    case h_2 => cases h
    rename_i d info h1 h2
    split at h
    case h_2 => cases h
    rename_i z hz
    split at h
    case isFalse => cases h
    cases h
    exact ⟨h1, info, h2, rfl, rfl, hz⟩
  · intro t i h
    change infoOf P t = some i at h
    unfold infoOf at h
    split at h
    case h_2 => cases h
    rename_i d info h1 h2
    split at h
    case h_2 => cases h
    rename_i z hz
    split at h
    case isFalse => cases h
    rename_i hs
    cases h
    exact hs
  · intro t l h
    exact eqsOf_ok h
  · intro t name f h
    exact methOf_ok h

/-! ### Typed data -/
def eI (n : Int) : D := .val (.int .i64 n)
def eB (b : Bool) : D := .val (.bool b)
def eS (s : ByteArray) : D := .val (.string s)
def eSs (l : List ByteArray) : D := .sl 1 (l.map fun s => [eS s])
end Go.Am
