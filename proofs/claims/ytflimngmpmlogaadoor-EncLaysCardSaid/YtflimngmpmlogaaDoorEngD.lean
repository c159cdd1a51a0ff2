/- From what a call is handed to data, and from an answer to the row. No condition. -/
import Derived.Test.YtflimngmpmlogaaDoorEngC
import Derived.ProofKit
import Derived.OpenShut
import Derived.KernelRfl
import Derived.Deep.DeepHandedRow
import Derived.Lib.LaidTab
import Derived.Test.YtflimngmpmlogaaDoorEngS
set_option linter.all false
set_option linter.unnecessarySimpa false
namespace Go.Am
open Go.ChangeShapes Go.WideShapes Go.ChangeAt Go.RowKit
set_option linter.unusedVariables false

inductive Ty where
  | bool
  | int (k : IntKind)
  | str
  | slice (k : Nat) (e : Ty)
  | arr (n : Nat) (e : Ty)
  | struct (fs : List Ty)

mutual
def Wt : Ty → List D → Prop
  | .bool, ds => ∃ b, ds = [eB b]
  | .int k, ds => ∃ n, ds = [.val (.int k n)] ∧ (Lit.int k n).wf = true
  | .str, ds => ∃ s, ds = [eS s] ∧ s.size ≤ maxLen
  | .slice k e, ds => ∃ es : List (List D), ds = [.sl k es] ∧ es.length ≤ maxLen ∧ ∀ x ∈ es, x.length = k ∧ Wt e x
  | .arr n e, ds => ∃ dss : List (List D), ds = dss.flatten ∧ dss.length = n ∧ ∀ x ∈ dss, Wt e x
  | .struct fs, ds => WtL fs ds
def WtL : List Ty → List D → Prop
  | [], ds => ds = []
  | f :: fs, ds => ∃ a b, ds = a ++ b ∧ Wt f a ∧ WtL fs b
end

mutual
def rd {H : Type} : Ty → DataW H → Option (List D)
  | .bool, .lit (.bool b) => some [eB b]
  | .int _, .lit (.int k n) => some [.val (.int k n)]
  | .str, .lit (.string l) => some [eS ⟨l.toArray⟩]
  | .slice k _, .nil => some [.sl k []]
  | .slice k e, .slice es _ => (es.mapM (rd e)).map fun xs => [.sl k xs]
  | .arr _ e, .agg es => (es.mapM (rd e)).map List.flatten
  | .struct fs, .agg es => rdL fs es
  | _, _ => none
def rdL {H : Type} : List Ty → List (DataW H) → Option (List D)
  | [], [] => some []
  | f :: fs, d :: ds => (rd f d).bind fun a => (rdL fs ds).map (a ++ ·)
  | _, _ => none
end

mutual
def tyOk (P : Program) : Ty → TypeId → Bool
  | .bool, t => match P.underlying t with
    | some .bool => true
    | _ => false
  | .int k, t => match P.underlying t with
    | some (.int k') => decide (k = k')
    | _ => false
  | .str, t => match P.underlying t with
    | some .string => true
    | _ => false
  | .slice k e, t => match P.underlying t with
    | some (.slice e') => decide (P.cellsOf e' = k) && decide (0 < k) && tyOk P e e'
    | _ => false
  | .arr n e, t => match P.underlying t with
    | some (.array n' e') => decide (n = n') && decide (P.cellsOf t = n * P.cellsOf e') && tyOk P e e'
    | _ => false
  | .struct fs, t => match P.underlying t with
    | some (.struct fs') => tyOkL P fs fs'.toList 0 (P.cellsOf t)
    | _ => false
def tyOkL (P : Program) : List Ty → List Field → Nat → Nat → Bool
  | [], [], off, n => decide (off = n)
  | f :: fs, x :: xs, off, n => decide (x.offset = off) && tyOk P f x.type && tyOkL P fs xs (off + P.cellsOf x.type) n
  | _, _, _, _ => false
end

def Rel (m : Mem) : List D → List Value → Prop
  | [], [] => True
  | d :: ds, v :: vs => D.one d = true ∧ DR m d v ∧ Rel m ds vs
  | _, _ => False
theorem Rel.len {m : Mem} : ∀ {ds : List D} {vs : List Value}, Rel m ds vs → vs.length = ds.length
  | [], [], _ => rfl
  | _ :: _, _ :: _, h => by simp [Rel.len h.2.2]
  | [], _ :: _, h => h.elim
  | _ :: _, [], h => h.elim
theorem Rel.at {m : Mem} : ∀ {ds : List D} {vs : List Value}, Rel m ds vs → ∀ (i : Nat) (d : D), ds[i]? = some d → ∃ v, vs[i]? = some v ∧ D.one d = true ∧ DR m d v
  | [], [], _, i, d, h => by simp at h
  | x :: ds, v :: vs, h, 0, d, hd => by simp at hd; subst hd; exact ⟨v, rfl, h.1, h.2.1⟩
  | _ :: _, _ :: _, h, i + 1, d, hd => by simpa using Rel.at h.2.2 i d (by simpa using hd)
  | [], _ :: _, h, _, _, _ => h.elim
  | _ :: _, [], h, _, _, _ => h.elim
theorem Rel.append {m : Mem} : ∀ {ds : List D} {vs : List Value} {ds' : List D} {vs' : List Value}, Rel m ds vs → Rel m ds' vs' → Rel m (ds ++ ds') (vs ++ vs')
  | [], [], _, _, _, h' => h'
  | _ :: _, _ :: _, _, _, h, h' => ⟨h.1, h.2.1, Rel.append h.2.2 h'⟩
  | [], _ :: _, _, _, h, _ => h.elim
  | _ :: _, [], _, _, h, _ => h.elim
theorem Rel.one {m : Mem} : ∀ {ds : List D} {vs : List Value}, Rel m ds vs → ds.all D.one = true
  | [], [], _ => rfl
  | _ :: _, _ :: _, h => by simp only [List.all_cons, h.1, Rel.one h.2.2, Bool.and_self]
  | [], _ :: _, h => h.elim
  | _ :: _, [], h => h.elim

theorem exists_list {α : Type} : ∀ (n : Nat) (Q : Nat → α → Prop), (∀ i, i < n → ∃ y, Q i y) → ∃ ys : List α, ys.length = n ∧ ∀ (i : Nat) (y : α), ys[i]? = some y → Q i y
  | 0, _, _ => ⟨[], rfl, by intro i y h; simp at h⟩
  | n + 1, Q, h => by
    obtain ⟨ys, h1, h2⟩ := exists_list n (fun i => Q (i + 1)) fun i hi => h (i + 1) (by omega)
    obtain ⟨y, hy⟩ := h 0 (by omega)
    refine ⟨y :: ys, by simp [h1], ?_⟩
    intro i z hz
    cases i with
    | zero => simp at hz; subst hz; exact hy
    | succ i => exact h2 i z (by simpa using hz)

theorem mapM_of {α β : Type} (f : α → Option β) : ∀ (l : List α) (r : List β), r.length = l.length → (∀ (i : Nat) (x : α) (y : β), l[i]? = some x → r[i]? = some y → f x = some y) → l.mapM f = some r
  | [], [], _, _ => rfl
  | x :: l, y :: r, hl, h => by
    have h0 := h 0 x y rfl rfl
    have ih := mapM_of f l r (by simpa using hl) fun i x y hx hy => h (i + 1) x y (by simpa using hx) (by simpa using hy)
    simp [List.mapM_cons, h0, ih]
  | [], _ :: _, h, _ => by simp at h
  | _ :: _, [], h, _ => by simp at h

section
variable {H : Type} {enc : TypeId × Value → H} {P : Program} {w : World} {base : Nat} {spare : Nat → Bool} {held : Bool}

theorem pieces {m : Mem} {c : Nat} {cs : List Value} : ∀ (dss : List (List D)) (o : Nat), (∀ (i : Nat) (x : List D), dss[i]? = some x → Rel m x ((cs.drop (o + i * c)).take c)) → (o + dss.length * c = cs.length) → Rel m dss.flatten (cs.drop o)
  | [], o, _, hl => by
    have : cs.drop o = [] := List.drop_eq_nil_of_le (by simp at hl; omega)
    rw [this]; trivial
  | x :: r, o, h, hl => by
    have hl' : o + c + r.length * c = cs.length := by simp only [List.length_cons, Nat.add_mul] at hl; omega
    have h0 := h 0 x rfl
    have ih := pieces (m := m) (cs := cs) (c := c) r (o + c) (fun i x hx => by
      have := h (i + 1) x (by simpa using hx)
      rw [show o + c + i * c = o + (i + 1) * c by rw [Nat.add_mul]; omega]
      exact this) hl'
    have e : cs.drop o = (cs.drop o).take c ++ cs.drop (o + c) := by
      conv => lhs; rw [← List.take_append_drop c (cs.drop o)]
      rw [List.drop_drop]
    rw [e, List.flatten_cons]
    refine Rel.append ?_ ih
    simpa using h0

theorem wt_of_trod (m : Mem) (hm : ∀ b o, w.heap[b]? = some o → m b = some o) : ∀ (n : Nat) (ty : Ty) (t : TypeId) (cs : List Value) (x : DataW H × List MemPlace), tyOk P ty t = true → DataW.trod enc P w base spare held n t cs = some x →
    ∃ ds, rd ty x.1 = some ds ∧ Wt ty ds ∧ Rel m ds cs := by
  intro n
  induction n with
  | zero => intro ty t cs x _ h; simp [DataW.trod] at h
  | succ n ih =>
    intro ty t cs x hty h
    cases ty with
    | bool =>
      simp only [tyOk] at hty
      split at hty
      · obtain ⟨b, rfl, rfl⟩ := DataW.trod_bool ‹_› h
        exact ⟨[eB b], rfl, ⟨b, rfl⟩, rfl, .val _, trivial⟩
      · cases hty
    | int k =>
      simp only [tyOk] at hty
      split at hty
      · have := of_decide_eq_true hty
        subst this
        obtain ⟨z, rfl, rfl, hw⟩ := DataW.trod_int ‹_› h
        exact ⟨[.val (.int k z)], rfl, ⟨z, rfl, hw⟩, rfl, .val _, trivial⟩
      · cases hty
    | str =>
      simp only [tyOk] at hty
      split at hty
      · obtain ⟨s, rfl, rfl, hw⟩ := DataW.trod_string ‹_› h
        refine ⟨[eS s], ?_, ⟨s, rfl, hw⟩, rfl, .val _, trivial⟩
        simp [rd]
      · cases hty
    | slice k e =>
      simp only [tyOk] at hty
      split at hty
      · rename_i e' hu
        simp only [Bool.and_eq_true, decide_eq_true_eq] at hty
        obtain ⟨⟨hk, hk0⟩, he⟩ := hty
        subst hk
        rcases DataW.trod_slice hu h with ⟨rfl, rfl⟩ | ⟨a, len, cap, elems, rest, n', hn, rfl, rfl, hb, hlc, hcap, hel, hread, _, _⟩
        · exact ⟨[.sl _ []], rfl, ⟨[], rfl, by simp, by simp⟩, rfl, .sl0 _ _ _, trivial⟩
        · cases hn
          have each : ∀ i, i < len → ∃ ds, ∃ x, elems[i]? = some x ∧ rd e x.1 = some ds ∧ Wt e ds ∧ ∃ c, w.cells? base (a.add (i * P.cellsOf e')) (P.cellsOf e') = some c ∧ Rel m ds c := by
            intro i hi
            have h1 := hread i hi
            rw [List.getElem?_eq_getElem (by omega)] at h1
            obtain ⟨c, h2, h3⟩ := Option.bind_eq_some_iff.1 h1
            obtain ⟨ds, g1, g2, g3⟩ := ih e e' c _ he h3
            exact ⟨ds, _, List.getElem?_eq_getElem (by omega), g1, g2, c, h2, g3⟩
          obtain ⟨es, hl, hes⟩ := exists_list len _ each
          have clen : ∀ (i : Nat) (ds : List D), es[i]? = some ds → ds.length = P.cellsOf e' := by
            intro i ds hi
            obtain ⟨_, _, _, _, c, hc, hr⟩ := hes i ds hi
            rw [← hr.len]; exact (World.cells?_some hc).2.1
          refine ⟨[.sl (P.cellsOf e') es], ?_, ⟨es, rfl, by omega, ?_⟩, rfl, ?_, trivial⟩
          · simp only [rd]
            rw [mapM_of (rd e) (elems.map (·.1)) es (by simp; omega)]
            · rfl
            · intro i x y hx hy
              obtain ⟨z, h1, h2, _⟩ := hes i y hy
              simp [h1] at hx
              rw [← hx]; exact h2
          · intro x hx
            obtain ⟨i, hi, rfl⟩ := List.getElem_of_mem hx
            obtain ⟨_, _, _, g2, _⟩ := hes i _ (List.getElem?_eq_getElem hi)
            exact ⟨clen i _ (List.getElem?_eq_getElem hi), g2⟩
          · by_cases h0 : len = 0
            · subst h0
              have : es = [] := List.eq_nil_of_length_eq_zero hl
              subst this
              exact .sl0 _ _ _
            · have hone : ∀ (i : Nat) (ds : List D), es[i]? = some ds → ∀ j, j < P.cellsOf e' → w.cell? ((a.add (i * P.cellsOf e')).add j) ≠ none := by
                intro i ds hi j hj
                obtain ⟨_, _, _, _, c, hc, hr⟩ := hes i ds hi
                obtain ⟨_, q1, q2⟩ := World.cells?_some hc
                rw [q2 j hj, List.getElem?_eq_getElem (by omega)]
                simp
              have hfirst := hone 0 _ (List.getElem?_eq_getElem (by omega)) 0 hk0
              simp only [Nat.zero_mul, Addr.add, if_true] at hfirst
              obtain ⟨b, off, spot⟩ := a
              unfold World.cell? at hfirst
              cases hh : w.heap[b]? with
              | none => simp [hh] at hfirst
              | some o =>
                cases o with
                | cells vs T fz =>
                  simp only [hh] at hfirst
                  have hspot : spot = none := by
                    cases spot with
                    | none => rfl
                    | some s => simp at hfirst
                  subst hspot
                  have cellAt : ∀ q, w.cell? ⟨b, q, none⟩ = vs[q]? := by intro q; simp [World.cell?, hh]
                  have addAt : ∀ q, (⟨b, off, none⟩ : Addr).add q = ⟨b, off + q, none⟩ := by intro q; unfold Addr.add; split <;> simp_all
                  have addAt2 : ∀ o q, (⟨b, o, none⟩ : Addr).add q = ⟨b, o + q, none⟩ := by intro o q; unfold Addr.add; split <;> simp_all
                  have key : ∀ (i : Nat) (ds : List D) (j : Nat) (c : D), es[i]? = some ds → ds[j]? = some c → ∃ v, vs[off + i * P.cellsOf e' + j]? = some v ∧ DR m c v := by
                    intro i ds j c hi hj
                    obtain ⟨_, _, _, _, cc, hc, hr⟩ := hes i ds hi
                    obtain ⟨_, q1, q2⟩ := World.cells?_some hc
                    obtain ⟨v, r1, _, r2⟩ := hr.at j c hj
                    have hjl : j < P.cellsOf e' := by rw [← clen i ds hi]; exact (List.getElem?_eq_some_iff.1 hj).1
                    refine ⟨v, ?_, r2⟩
                    rw [← r1, ← q2 j hjl, addAt, addAt2, cellAt]
                  rw [← hl]
                  refine .sl _ es b off cap vs T fz (hm _ _ hh) ?_ (by omega) (fun i j => (vs[off + i * P.cellsOf e' + j]?).getD undef) ?_ ?_
                  · intro x hx
                    obtain ⟨i, hi, rfl⟩ := List.getElem_of_mem hx
                    obtain ⟨_, _, _, _, _, _, hr⟩ := hes i _ (List.getElem?_eq_getElem hi)
                    exact ⟨clen i _ (List.getElem?_eq_getElem hi), hr.one⟩
                  · intro i ds j c hi hj
                    obtain ⟨v, h1, _⟩ := key i ds j c hi hj
                    simp [h1]
                  · intro i ds j c hi hj
                    obtain ⟨v, h1, h2⟩ := key i ds j c hi hj
                    simpa [h1] using h2
                | _ => simp [hh] at hfirst
      · cases hty
    | arr k e =>
      simp only [tyOk] at hty
      split at hty
      · rename_i k' e' hu
        simp only [Bool.and_eq_true, decide_eq_true_eq] at hty
        obtain ⟨⟨hk, hc⟩, he⟩ := hty
        subst hk
        obtain ⟨xs, n', hn, rfl, hlen, hxl, hread⟩ := DataW.trod_array hu h
        cases hn
        have each : ∀ i, i < k → ∃ ds, ∃ x, xs[i]? = some x ∧ rd e x.1 = some ds ∧ Wt e ds ∧ Rel m ds ((cs.drop (i * P.cellsOf e')).take (P.cellsOf e')) := by
          intro i hi
          have h1 := hread i hi
          rw [List.getElem?_eq_getElem (by omega)] at h1
          obtain ⟨ds, g1, g2, g3⟩ := ih e e' _ _ he h1
          exact ⟨ds, _, List.getElem?_eq_getElem (by omega), g1, g2, g3⟩
        obtain ⟨es, hl, hes⟩ := exists_list k _ each
        refine ⟨es.flatten, ?_, ⟨es, rfl, hl, ?_⟩, ?_⟩
        · simp only [rd]
          rw [mapM_of (rd e) (xs.map (·.1)) es (by simp; omega)]
          · rfl
          · intro i x y hx hy
            obtain ⟨z, h1, h2, _⟩ := hes i y hy
            simp [h1] at hx
            rw [← hx]; exact h2
        · intro x hx
          obtain ⟨i, hi, rfl⟩ := List.getElem_of_mem hx
          obtain ⟨_, _, _, g2, _⟩ := hes i _ (List.getElem?_eq_getElem hi)
          exact g2
        · have := pieces (m := m) (c := P.cellsOf e') (cs := cs) es 0 (fun i x hx => by
            obtain ⟨_, _, _, _, g3⟩ := hes i x hx
            simpa using g3) (by rw [hl]; omega)
          simpa using this
      · cases hty
    | struct fs =>
      simp only [tyOk] at hty
      split at hty
      · rename_i fs' hu
        obtain ⟨xs, n', hn, rfl, hlen, hxl, hread⟩ := DataW.trod_struct hu h
        cases hn
        have go : ∀ (fs : List Ty) (gs : List Field) (ys : List (DataW H × List MemPlace)) (off : Nat), tyOkL P fs gs off (P.cellsOf t) = true → ys.length = gs.length →
            (∀ (i : Nat) (f : Field), gs[i]? = some f → DataW.trod enc P w base spare held n f.type ((cs.drop f.offset).take (P.cellsOf f.type)) = ys[i]?) →
            ∃ ds, rdL fs (ys.map (·.1)) = some ds ∧ WtL fs ds ∧ Rel m ds (cs.drop off) := by
          intro fs
          induction fs with
          | nil =>
            intro gs ys off h1 h2 h3
            cases gs with
            | nil =>
              simp only [tyOkL, decide_eq_true_eq] at h1
              have : ys = [] := List.eq_nil_of_length_eq_zero h2
              subst this
              refine ⟨[], rfl, rfl, ?_⟩
              rw [List.drop_eq_nil_of_le (by omega)]
              trivial
            | cons _ _ => simp [tyOkL] at h1
          | cons f fs ihf =>
            intro gs ys off h1 h2 h3
            cases gs with
            | nil => simp [tyOkL] at h1
            | cons g gs =>
              cases ys with
              | nil => simp at h2
              | cons y ys =>
                simp only [tyOkL, Bool.and_eq_true, decide_eq_true_eq] at h1
                obtain ⟨⟨e1, e2⟩, e3⟩ := h1
                obtain ⟨a, a1, a2, a3⟩ := ih f g.type _ y e2 (h3 0 g rfl)
                obtain ⟨b, b1, b2, b3⟩ := ihf gs ys _ e3 (by simpa using h2) (fun i f hf => by simpa using h3 (i + 1) f (by simpa using hf))
                refine ⟨a ++ b, by simp [rdL, a1, b1], ⟨a, b, rfl, a2, b2⟩, ?_⟩
                have e : cs.drop off = (cs.drop off).take (P.cellsOf g.type) ++ cs.drop (off + P.cellsOf g.type) := by
                  conv => lhs; rw [← List.take_append_drop (P.cellsOf g.type) (cs.drop off)]
                  rw [List.drop_drop]
                rw [e]
                refine Rel.append ?_ b3
                rw [← e1]; exact a3
        obtain ⟨ds, g1, g2, g3⟩ := go fs fs'.toList xs 0 hty (by simpa using hxl) (fun i f hf => hread i f (by simpa using hf))
        exact ⟨ds, g1, g2, by simpa using g3⟩
      · cases hty
end
end Go.Am
namespace Go.Am
open Go.ChangeShapes Go.WideShapes Go.ChangeAt Go.RowKit
set_option linter.unusedVariables false

/-- A parameter of this type. -/
def WtP : Ty → D → Prop
  | .struct fs, d => ∃ ds, d = .agg ds ∧ WtL fs ds
  | .arr _ _, _ => False
  | ty, d => Wt ty [d]
def WtAll : List Ty → List D → Prop
  | [], [] => True
  | t :: ts, d :: ds => WtP t d ∧ WtAll ts ds
  | _, _ => False
/-- What a parameter reads as. -/
def rdP {H : Type} (ty : Ty) (x : DataW H) (d : D) : Prop := match ty with
  | .struct fs => ∃ ds, d = .agg ds ∧ rd (.struct fs) x = some ds
  | ty => rd ty x = some [d]
def RdAll {H : Type} : List Ty → List (DataW H) → List D → Prop
  | [], [], [] => True
  | t :: ts, x :: xs, d :: ds => rdP t x d ∧ RdAll ts xs ds
  | _, _, _ => False
def tysOk (P : Program) : List Ty → List TypeId → Bool
  | [], [] => true
  | y :: ys, t :: ts => tyOk P y t && decide (t < P.types.size) && tysOk P ys ts
  | _, _ => false
theorem tysOk_lt {P : Program} : ∀ {ys : List Ty} {ts : List TypeId}, tysOk P ys ts = true → ∀ t ∈ ts, t < P.types.size
  | [], [], _, t, h => by simp at h
  | y :: ys, u :: ts, h, t, ht => by
    simp only [tysOk, Bool.and_eq_true, decide_eq_true_eq] at h
    rcases List.mem_cons.1 ht with rfl | ht
    · exact h.1.2
    · exact tysOk_lt h.2 t ht
  | [], _ :: _, h, _, _ => by simp [tysOk] at h
  | _ :: _, [], h, _, _ => by simp [tysOk] at h

section
variable {H : Type} {enc : TypeId × Value → H} {P : Program} {w : World}

theorem rel_single {m : Mem} {ds : List D} {v : Value} (h : Rel m ds [v]) : ∃ d, ds = [d] ∧ DR m d v := by
  cases ds with
  | nil => exact h.elim
  | cons d r =>
    cases r with
    | nil => exact ⟨d, rfl, h.2.1⟩
    | cons _ _ => exact h.2.2.elim
theorem rel_agg {m : Mem} {ds : List D} {cs : Array Value} (h : Rel m ds cs.toList) : DR m (.agg ds) (.agg cs) := by
  refine .agg _ _ (by simpa using h.len) ?_
  intro i c v hc hv
  obtain ⟨u, h1, _, h2⟩ := h.at i c hc
  have : cs[i]? = some u := by simpa using h1
  rw [hv] at this; cases this; exact h2

theorem par_of_trod (m : Mem) (hm : ∀ (b : Nat) (o : Obj), w.heap[b]? = some o → m b = some o) {r : Reach} {b0 base : Nat} {sp : Nat → Bool} {held : Bool} {ty : Ty} {t : TypeId} {v : Value} {x : DataW H} {ps : List MemPlace}
    (hty : tyOk P ty t = true) (hna : ∀ n e, ty ≠ .arr n e) (hval : Value.okWide P w r b0 t v) (h : DataW.Trod enc P w base sp held t v x ps) : ∃ d, rdP ty x d ∧ WtP ty d ∧ DR m d v := by
  obtain ⟨n, hn⟩ := h
  obtain ⟨ds, h1, h2, h3⟩ := wt_of_trod m hm n ty t _ _ hty hn
  cases ty with
  | bool =>
    simp only [tyOk] at hty
    split at hty
    · obtain ⟨b, rfl⟩ := okWide_bool ‹_› hval
      obtain ⟨d, rfl, hd⟩ := rel_single h3
      exact ⟨d, h1, h2, hd⟩
    · cases hty
  | int k =>
    simp only [tyOk] at hty
    split at hty
    · obtain ⟨b, rfl⟩ := okWide_int ‹_› hval
      obtain ⟨d, rfl, hd⟩ := rel_single h3
      exact ⟨d, h1, h2, hd⟩
    · cases hty
  | str =>
    simp only [tyOk] at hty
    split at hty
    · obtain ⟨b, rfl⟩ := okWide_string ‹_› hval
      obtain ⟨d, rfl, hd⟩ := rel_single h3
      exact ⟨d, h1, h2, hd⟩
    · cases hty
  | slice k e =>
    simp only [tyOk] at hty
    split at hty
    · obtain ⟨a, l, c, rfl⟩ := okWide_slice ‹_› hval
      obtain ⟨d, rfl, hd⟩ := rel_single h3
      exact ⟨d, h1, h2, hd⟩
    · cases hty
  | arr n e => exact (hna _ _ rfl).elim
  | struct fs =>
    simp only [tyOk] at hty
    split at hty
    · obtain ⟨cs, rfl, _⟩ := okWide_struct ‹_› hval
      exact ⟨.agg ds, ⟨ds, rfl, h1⟩, ⟨ds, rfl, h2⟩, rel_agg h3⟩
    · cases hty

theorem pars_of_trod (m : Mem) (hm : ∀ (b : Nat) (o : Obj), w.heap[b]? = some o → m b = some o) {r : Reach} {b0 base : Nat} {sp : Nat → Bool} {held : Bool} : ∀ {tys : List Ty} {ts : List TypeId} {vs : List Value} {xs : List (DataW H)} {ps : List MemPlace},
    tysOk P tys ts = true → (∀ y ∈ tys, ∀ n e, y ≠ .arr n e) → (∀ (j : Nat) t v, ts[j]? = some t → vs[j]? = some v → Value.okWide P w r b0 t v) → DataW.TrodAll enc P w base sp held ts vs xs ps →
    ∃ ds, RdAll tys xs ds ∧ WtAll tys ds ∧ DRs m ds vs
  | [], [], vs, xs, ps, _, _, _, h => by
    obtain ⟨rfl, rfl, rfl⟩ := trodAll_nil h
    exact ⟨[], trivial, trivial, rfl, by intro i d v hd; simp at hd⟩
  | y :: tys, t :: ts, vs, xs, ps, hty, hna, hval, h => by
    obtain ⟨v, vs', x, xs', p, q, rfl, rfl, rfl, h1, h2⟩ := trodAll_cons h
    simp only [tysOk, Bool.and_eq_true, decide_eq_true_eq] at hty
    obtain ⟨d, d1, d2, d3⟩ := par_of_trod m hm hty.1.1 (hna y (by simp)) (hval 0 t v rfl rfl) h1
    obtain ⟨ds, e1, e2, e3⟩ := pars_of_trod m hm hty.2 (fun y hy => hna y (by simp [hy])) (fun j t v ht hv => hval (j + 1) t v (by simpa using ht) (by simpa using hv)) h2
    refine ⟨d :: ds, ⟨d1, e1⟩, ⟨d2, e2⟩, by simpa using e3.1, ?_⟩
    intro i c u hc hu
    cases i with
    | zero => simp at hc hu; subst hc; subst hu; exact d3
    | succ i => exact e3.2 i c u (by simpa using hc) (by simpa using hu)
  | [], _ :: _, _, _, _, h, _, _, _ => by simp [tysOk] at h
  | _ :: _, [], _, _, _, h, _, _, _ => by simp [tysOk] at h

/-- What was read once reads the same, where nothing that was there turned. -/
theorem again {W W' : World} (hle : ∀ (b : Nat) (o : Obj), W.heap[b]? = some o → W'.heap[b]? = some o) (hl : laidOutB P = true) (hm : mapsRowed P = true)
    (hz : ((List.range P.types.size).all fun t => match P.underlying t with | some (.slice e) => decide (0 < P.cellsOf e) | _ => true) = true) {sp : Nat → Bool} :
    ∀ {ts : List TypeId} {vs : List Value} {ds : List (DataW H)} {ps : List MemPlace}, (∀ t ∈ ts, t < P.types.size) → DataW.TrodAll enc P W 0 (fun _ => true) true ts vs ds ps →
      (∀ p ∈ ps, p.block < W.heap.size) → (∀ p ∈ ps, sp p.block = true) → DataW.TrodAll enc P W' 0 sp true ts vs ds ps
  | [], [], [], _, _, h, _, _ => h
  | t :: ts, v :: vs, d :: ds, _, ht, ⟨p, q, ⟨n, h1⟩, h2, e⟩, hlt, hs => by
    refine ⟨p, q, ⟨n, ?_⟩, again hle hl hm hz (fun t h => ht t (by simp [h])) h2 (fun x hx => hlt x (by rw [e]; exact List.mem_append_right _ hx)) (fun x hx => hs x (by rw [e]; exact List.mem_append_right _ hx)), e⟩
    refine DataW.trod_stays (kids_rows hl hm) (fun {t e} h1 h2 => slices_full_of P hz t e h1 h2) (fun h => by cases h) (ht t (by simp)) h1 ?_ (fun x hx => hs x (by rw [e]; exact List.mem_append_left _ hx))
    intro x hx
    have hb := hlt x (by rw [e]; exact List.mem_append_left _ hx)
    have hh : W'.heap[x.block]? = W.heap[x.block]? := by
      rw [Array.getElem?_eq_getElem hb]
      exact hle _ _ (Array.getElem?_eq_getElem hb)
    cases x with
    | cell b off =>
      show W'.cell? ⟨b, off, none⟩ = W.cell? ⟨b, off, none⟩
      unfold World.cell?
      rw [show W'.heap[b]? = W.heap[b]? from hh]
    | map b => exact hh

def frm0 (W : World) : Frm := ⟨fun _ => none, W.os, W.output, W.heap.size⟩
theorem memOK0 (W : World) : MemOK (fun b => W.heap[b]?) (frm0 W) W := by
  refine ⟨fun b o h => h, ⟨fun b o h => by simp [frm0] at h, rfl, rfl, Nat.le_refl _, ?_⟩, fun _ _ => rfl⟩
  intro b c t f hb hc
  have : W.heap[b]? = none := Array.getElem?_eq_none hb
  rw [hc] at this; cases this
theorem kept0 {W W' : World} {m' : Mem} (hle : (show Mem from fun b => W.heap[b]?).le m') (h : MemOK m' (frm0 W) W') :
    W.keptBut W' (fun _ => False) ∧ (∀ a, W'.frozen? a = W.frozen? a) ∧ (∀ (b : Nat) (o : Obj), W.heap[b]? = some o → W'.heap[b]? = some o) := by
  have hh : ∀ (b : Nat) (o : Obj), W.heap[b]? = some o → W'.heap[b]? = some o := fun b o hb => h.mem b o (hle b o hb)
  refine ⟨⟨h.frame.quiet.os, h.frame.quiet.out, fun i hi => ?_⟩, fun a => ?_, hh⟩
  · have h1 := Array.getElem?_eq_getElem hi
    have h2 := hh i _ h1
    rw [h1, h2]
    split
    · rename_i e1 e2
      rw [e1] at e2
      simp only [Option.some.injEq, Obj.cells.injEq] at e2
      obtain ⟨rfl, rfl, rfl⟩ := e2
      exact ⟨rfl, rfl, rfl, fun _ _ => rfl⟩
    · rename_i e1 e2
      rw [e1] at e2
      simp only [Option.some.injEq, Obj.map.injEq] at e2
      exact Or.inr ⟨e2.1.symm, e2.2.symm⟩
    · rfl
  · unfold World.frozen?
    cases hb : W.heap[a.block]? with
    | some o => rw [hh _ _ hb]
    | none =>
      have hge : W.heap.size ≤ a.block := by
        refine Nat.le_of_not_lt fun hlt => ?_
        rw [Array.getElem?_eq_getElem hlt] at hb
        cases hb
      cases hb' : W'.heap[a.block]? with
      | none => rfl
      | some o =>
        cases o with
        | cells c t f =>
          have := h.frame.quiet.frz _ c t f hge hb'
          subst this
          simp
        | _ => rfl

/-- THE CONTRACT of a law that answers true. -/
theorem law_contract {G : Gl} {f : FuncId} {fn : Func} {s : ChangeSpec} {tys : List Ty} {tr : TypeId} {W : World} {base : Nat} {args : Array Value} {ds gs : List (DataW H)} {before : List MemPlace}
    (hl : laidOutB P = true) (hm : mapsRowed P = true)
    (hz : ((List.range P.types.size).all fun t => match P.underlying t with | some (.slice e) => decide (0 < P.cellsOf e) | _ => true) = true)
    (hty : tysOk P tys fn.params.toList = true) (hna : ∀ y ∈ tys, ∀ n e, y ≠ .arr n e) (hres : fn.resultTypes = #[tr]) (htr : P.underlying tr = some .bool)
    (hvars : s.vars = []) (hs : ∀ ds : List (DataW H), ds.length = tys.length → s.fn H ds = ⟨[.lit (.bool true)], ds, []⟩)
    (hrun : ∀ dss, RdAll tys ds dss → WtAll tys dss → PCalls P G f dss (· = eB true))
    (hG : GOk G (fun b : Nat => W.heap[b]?))
    (hval : ∀ (j : Nat) t v, fn.params[j]? = some t → args[j]? = some v → Value.okWide P W .any base t v)
    (hW : DataW.Whole enc P fn.params.toList s.vars false W args.toList ds gs before) :
    Calls P f args W fun e W' => ∃ v, e = .returned v ∧ s.post enc P fn false true false false W args v W' := by
  have hW' := hW
  obtain ⟨p, q, hA, hV, rfl, hfz, hnd⟩ := hW
  rw [hvars] at hV
  obtain ⟨rfl, rfl⟩ := trodVars_none hV
  obtain ⟨dss, d1, d2, d3⟩ := pars_of_trod (fun b => W.heap[b]?) (fun b o h => h) hty hna (fun j t v ht hv => hval j t v (by simpa using ht) (by simpa using hv)) hA
  have hc := (hrun dss d1 d2).run (fun b => W.heap[b]?) (frm0 W) W args.toList hG (memOK0 W) d3
  have hlen : ds.length = tys.length := by
    have : ∀ (tys : List Ty) (ds : List (DataW H)) (dss : List D), RdAll tys ds dss → ds.length = tys.length := by
      intro tys
      induction tys with
      | nil => intro ds dss h; cases ds <;> cases dss <;> simp_all [RdAll]
      | cons y tys ih =>
        intro ds dss h
        cases ds with
        | nil => cases dss <;> simp [RdAll] at h
        | cons x ds =>
          cases dss with
          | nil => simp [RdAll] at h
          | cons d dss => simp [ih ds dss h.2]
    exact this _ _ _ d1
  refine hc.mono fun e W' ⟨v, m', r, he, hr, hle, hM, hv⟩ => ?_
  subst hr
  have hvb : v = .bool true := by cases hv; rfl
  subst hvb
  obtain ⟨k1, k2, k3⟩ := kept0 hle hM
  have hlt := hW'.lt
  refine ⟨_, he, ?_⟩
  have hfn := hs (ds ++ []) (by simpa using hlen)
  simp only [List.append_nil] at hfn
  refine post_of_same (pa := p) (pv := []) hW' (fun b sp hd => ?_) (fun sp hsp => ?_) (fun sp hsp => ?_) rfl (World.keptBut_mono (fun _ h => h.elim) k1) k2 (ok_one hres rfl (okWide_bool_mk htr _))
  · rw [List.append_nil, hfn, hres]
    exact trodAll_cons_mk (shut_bool htr true) trodAll_mk0
  · rw [List.append_nil, hfn]
    exact again k3 hl hm hz (tysOk_lt hty) hA (fun x hx => hlt x (by simpa using hx)) (fun x hx => hsp x (by simpa using hx))
  · rw [List.append_nil, hfn, hvars]; rfl

/-- The listed variables hold what they are listed with. -/
theorem gok_of_laid {W : World} : ∀ (laid : List (String × DataW Unit)) (gs : List (Nat × TypeId × Ty × List D)) (ps : List MemPlace), DataW.LaidVars P W laid ps →
    gs.length = laid.length → (∀ (i : Nat) x g, laid[i]? = some x → gs[i]? = some g → P.globalNamed x.1 = some g.1 ∧ (P.globals[g.1]?).map (·.type) = some g.2.1 ∧ tyOk P g.2.2.1 g.2.1 = true ∧ rd g.2.2.1 x.2 = some g.2.2.2) →
    ∀ g ∈ gs, ∃ vs T fz, W.heap[g.1]? = some (.cells vs T fz) ∧ Rel (fun b => W.heap[b]?) g.2.2.2 vs.toList
  | [], [], _, _, _, _, g, hg => by simp at hg
  | (nm, x) :: laid, y :: gs, ps, h, hl, hx, g, hg => by
    obtain ⟨g', t, cs, fuel, p, q, h1, h2, h3, h4, h5, _⟩ := h
    rcases List.mem_cons.1 hg with rfl | hg
    · obtain ⟨a2, a3, a4, a5⟩ := hx 0 _ _ rfl rfl
      have e1 := Option.some.inj (a2.symm.trans h1)
      subst e1
      have e2 := Option.some.inj (a3.symm.trans h2)
      subst e2
      obtain ⟨ds, b1, _, b3⟩ := wt_of_trod (fun b => W.heap[b]?) (fun b o h => h) fuel _ _ _ _ a4 h4
      have e3 := Option.some.inj (a5.symm.trans b1)
      unfold World.var? at h3
      rw [h1] at h3
      simp only [Option.bind_some] at h3
      split at h3
      · rename_i cs' T fz hh
        cases h3
        exact ⟨_, T, fz, hh, by rw [e3]; exact b3⟩
      · cases h3
    · exact gok_of_laid laid gs q h5 (by simpa using hl) (fun i x g hx' hg' => hx (i + 1) x g (by simpa using hx') (by simpa using hg')) g hg
  | [], _ :: _, _, _, h, _, _, _ => by simp at h
  | _ :: _, [], _, _, h, _, _, _ => by simp at h

theorem gok_of {G : Gl} {W : World} (gs : List (Nat × TypeId × Ty × List D)) (hG : ∀ g cs, G g = some cs → ∃ x ∈ gs, x.1 = g ∧ x.2.2.2 = cs)
    (h : ∀ g ∈ gs, ∃ vs T fz, W.heap[g.1]? = some (.cells vs T fz) ∧ Rel (fun b => W.heap[b]?) g.2.2.2 vs.toList) : GOk G (fun b : Nat => W.heap[b]?) := by
  intro g cs hg
  obtain ⟨x, hx, rfl, rfl⟩ := hG g cs hg
  obtain ⟨vs, T, fz, h1, h2⟩ := h x hx
  refine ⟨vs, T, fz, h1, fun j => (vs[j]?).getD undef, ?_, ?_⟩
  · intro j c hc
    obtain ⟨v, q1, _, _⟩ := h2.at j c hc
    have : vs[j]? = some v := by simpa using q1
    simp [this]
  · intro j c hc
    obtain ⟨v, q1, _, q2⟩ := h2.at j c hc
    have : vs[j]? = some v := by simpa using q1
    simpa [this] using q2
end
end Go.Am
namespace Go.Am
set_option linter.unusedVariables false

def tyV : Ty := .struct [.str, .bool, .int .i64, .int .i64]
def tyVs : Ty := .slice 4 tyV
def tyIs : Ty := .slice 1 (.int .i64)
def tyBs : Ty := .slice 1 .bool
def tySs : Ty := .slice 1 .str

theorem list_of {α : Type} (f : α → List D) (Q : α → Prop) : ∀ (es : List (List D)), (∀ x ∈ es, ∃ y, x = f y ∧ Q y) → ∃ l : List α, es = l.map f ∧ ∀ y ∈ l, Q y
  | [], _ => ⟨[], rfl, by simp⟩
  | x :: es, h => by
    obtain ⟨y, rfl, hy⟩ := h x (by simp)
    obtain ⟨l, rfl, hl⟩ := list_of f Q es fun x hx => h x (by simp [hx])
    exact ⟨y :: l, rfl, by intro z hz; rcases List.mem_cons.1 hz with rfl | hz; exact hy; exact hl z hz⟩

theorem inI_of_wf {n : Int} (h : (Lit.int .i64 n).wf = true) : inI n := by
  have := Go.bounds_i64 h
  exact this
theorem maxLen_eq : maxLen = 9223372036854775807 := by rfl

theorem wt_int {x : List D} (h : Wt (.int .i64) x) : ∃ n, x = [eI n] ∧ inI n := by
  obtain ⟨n, rfl, hn⟩ := h
  exact ⟨n, rfl, inI_of_wf hn⟩
theorem wt_str {x : List D} (h : Wt .str x) : ∃ s, x = [eS s] ∧ s.size ≤ 9223372036854775807 := h
theorem wt_bool {x : List D} (h : Wt .bool x) : ∃ b, x = [eB b] := h
theorem wt_V {x : List D} (h : Wt tyV x) : ∃ v : V, x = v.cells ∧ V.ok v := by
  obtain ⟨a, b, rfl, ha, c, d, rfl, hc, e, f, rfl, he, g, i, rfl, hg, rfl⟩ := h
  obtain ⟨s, rfl, hs⟩ := wt_str ha
  obtain ⟨q, rfl⟩ := wt_bool hc
  obtain ⟨lo, rfl, hlo⟩ := wt_int he
  obtain ⟨hi, rfl, hhi⟩ := wt_int hg
  exact ⟨⟨s, q, lo, hi⟩, rfl, hlo, hhi, hs⟩
theorem wt_sl1 {k : Nat} {d : D} {e : Ty} (h : Wt (.slice k e) [d]) : ∃ es, d = .sl k es ∧ es.length ≤ 9223372036854775807 ∧ ∀ x ∈ es, Wt e x := by
  obtain ⟨es, he, h1, h2⟩ := h
  cases he
  exact ⟨es, rfl, h1, fun x hx => (h2 x hx).2⟩
theorem wt_Vs {d : D} (h : WtP tyVs d) : ∃ l : List V, d = eVs l ∧ l.length ≤ 9223372036854775807 ∧ ∀ v ∈ l, V.ok v := by
  obtain ⟨es, rfl, h1, h2⟩ := wt_sl1 h
  obtain ⟨l, rfl, hl⟩ := list_of V.cells V.ok es fun x hx => wt_V (h2 x hx)
  exact ⟨l, rfl, by simpa using h1, hl⟩
theorem wt_Is {d : D} (h : WtP tyIs d) : ∃ l : List Int, d = eIs l ∧ l.length ≤ 9223372036854775807 ∧ ∀ v ∈ l, inI v := by
  obtain ⟨es, rfl, h1, h2⟩ := wt_sl1 h
  obtain ⟨l, rfl, hl⟩ := list_of (fun n => [eI n]) inI es fun x hx => wt_int (h2 x hx)
  exact ⟨l, rfl, by simpa using h1, hl⟩
theorem wt_Bs {d : D} (h : WtP tyBs d) : ∃ l : List Bool, d = eBs l ∧ l.length ≤ 9223372036854775807 := by
  obtain ⟨es, rfl, h1, h2⟩ := wt_sl1 h
  obtain ⟨l, rfl, hl⟩ := list_of (fun n => [eB n]) (fun _ => True) es fun x hx => by obtain ⟨b, hb⟩ := wt_bool (h2 x hx); exact ⟨b, hb, trivial⟩
  exact ⟨l, rfl, by simpa using h1⟩
theorem wt_I {d : D} (h : WtP (.int .i64) d) : ∃ n, d = eI n ∧ inI n := by
  obtain ⟨n, h1, h2⟩ := wt_int h
  exact ⟨n, by simpa using h1, h2⟩
theorem wt_S {d : D} (h : WtP .str d) : ∃ s, d = eS s ∧ s.size ≤ 9223372036854775807 := by
  obtain ⟨n, h1, h2⟩ := wt_str h
  exact ⟨n, by simpa using h1, h2⟩
theorem wtAll_nil {dss : List D} (h : WtAll [] dss) : dss = [] := by
  cases dss with
  | nil => rfl
  | cons _ _ => exact h.elim
theorem wtAll_cons {t : Ty} {ts : List Ty} {dss : List D} (h : WtAll (t :: ts) dss) : ∃ d ds, dss = d :: ds ∧ WtP t d ∧ WtAll ts ds := by
  cases dss with
  | nil => exact h.elim
  | cons d ds => exact ⟨d, ds, rfl, h.1, h.2⟩
end Go.Am
