/- From what a call is handed to data, and from an answer to the row. No condition. -/
import Derived.Test.YtpongadenfhccaaEngC
import Derived.ProofKit
import Derived.OpenShut
import Derived.KernelRfl
import Derived.Deep.DeepHandedRow
import Derived.Lib.LaidTab
import Derived.Test.YtpongadenfhccaaEngS
set_option linter.all false
set_option linter.unnecessarySimpa false
namespace Go.Am
open Go.ChangeShapes Go.WideShapes Go.ChangeAt Go.RowKit
set_option linter.unusedVariables false

inductive Ty where
  | bool
  | int (k : IntKind)
  | str
  | slice (k bytes : Nat) (e : Ty)
  | arr (n : Nat) (e : Ty)
  | struct (fs : List Ty)
  | stop

mutual
def Wt : Ty → List D → Prop
  | .bool, ds => ∃ b, ds = [eB b]
  | .int k, ds => ∃ n, ds = [.val (.int k n)] ∧ (Lit.int k n).wf = true
  | .str, ds => ∃ s, ds = [eS s] ∧ s.size ≤ 140737488351232
  | .slice k by_ e, ds => ∃ es : List (List D), ds = [.sl k es] ∧ es.length ≤ maxLen ∧ es.length * by_ ≤ 140737488351232 ∧ ∀ x ∈ es, x.length = k ∧ Wt e x
  | .arr n e, ds => ∃ dss : List (List D), ds = dss.flatten ∧ dss.length = n ∧ ∀ x ∈ dss, Wt e x
  | .struct fs, ds => WtL fs ds
  | .stop, _ => False
def WtL : List Ty → List D → Prop
  | [], ds => ds = []
  | f :: fs, ds => ∃ a b, ds = a ++ b ∧ Wt f a ∧ WtL fs b
end

mutual
def rd {H : Type} : Ty → DataW H → Option (List D)
  | .bool, .lit (.bool b) => some [eB b]
  | .int _, .lit (.int k n) => some [.val (.int k n)]
  | .str, .lit (.string l) => some [eS ⟨l.toArray⟩]
  | .slice k _ _, .nil => some [.sl k []]
  | .slice k _ e, .slice es _ => (es.mapM (rd e)).map fun xs => [.sl k xs]
  | .arr _ e, .agg es => (es.mapM (rd e)).map List.flatten
  | .struct fs, .agg es => rdL fs es
  | _, _ => none
def rdL {H : Type} : List Ty → List (DataW H) → Option (List D)
  | [], [] => some []
  | f :: fs, d :: ds => (rd f d).bind fun a => (rdL fs ds).map (a ++ ·)
  | _, _ => none
end

mutual
def tyOk (P : Program) : Ty → TypeId → Bool
  | .bool, t => match P.underlying t with
    | some .bool => true
    | _ => false
  | .int k, t => match P.underlying t with
    | some (.int k') => decide (k = k')
    | _ => false
  | .str, t => match P.underlying t with
    | some .string => true
    | _ => false
  | .stop, _ => true
  | .slice k by_ e, t => match P.underlying t with
    | some (.slice e') => decide (P.cellsOf e' = k) && decide (0 < k) && decide (P.bytesOf e' = by_) && tyOk P e e'
    | _ => false
  | .arr n e, t => match P.underlying t with
    | some (.array n' e') => decide (n = n') && decide (P.cellsOf t = n * P.cellsOf e') && tyOk P e e'
    | _ => false
  | .struct fs, t => match P.underlying t with
    | some (.struct fs') => tyOkL P fs fs'.toList 0 (P.cellsOf t)
    | _ => false
def tyOkL (P : Program) : List Ty → List Field → Nat → Nat → Bool
  | [], [], off, n => decide (off = n)
  | f :: fs, x :: xs, off, n => decide (x.offset = off) && tyOk P f x.type && tyOkL P fs xs (off + P.cellsOf x.type) n
  | _, _, _, _ => false
end

mutual
/-- No end within so many steps. -/
def Ty.dp : Nat → Ty → Bool
  | 0, _ => true
  | _ + 1, .stop => false
  | n + 1, .slice _ _ e => e.dp n
  | n + 1, .arr _ e => e.dp n
  | n + 1, .struct fs => dpL n fs
  | _ + 1, _ => true
def dpL : Nat → List Ty → Bool
  | _, [] => true
  | n, f :: fs => f.dp n && dpL n fs
end
def Rel (m : Mem) : List D → List Value → Prop
  | [], [] => True
  | d :: ds, v :: vs => D.one d = true ∧ DR m d v ∧ Rel m ds vs
  | _, _ => False
theorem Rel.len {m : Mem} : ∀ {ds : List D} {vs : List Value}, Rel m ds vs → vs.length = ds.length
  | [], [], _ => rfl
  | _ :: _, _ :: _, h => by simp [Rel.len h.2.2]
  | [], _ :: _, h => h.elim
  | _ :: _, [], h => h.elim
theorem Rel.at {m : Mem} : ∀ {ds : List D} {vs : List Value}, Rel m ds vs → ∀ (i : Nat) (d : D), ds[i]? = some d → ∃ v, vs[i]? = some v ∧ D.one d = true ∧ DR m d v
  | [], [], _, i, d, h => by simp at h
  | x :: ds, v :: vs, h, 0, d, hd => by simp at hd; subst hd; exact ⟨v, rfl, h.1, h.2.1⟩
  | _ :: _, _ :: _, h, i + 1, d, hd => by simpa using Rel.at h.2.2 i d (by simpa using hd)
  | [], _ :: _, h, _, _, _ => h.elim
  | _ :: _, [], h, _, _, _ => h.elim
theorem Rel.append {m : Mem} : ∀ {ds : List D} {vs : List Value} {ds' : List D} {vs' : List Value}, Rel m ds vs → Rel m ds' vs' → Rel m (ds ++ ds') (vs ++ vs')
  | [], [], _, _, _, h' => h'
  | _ :: _, _ :: _, _, _, h, h' => ⟨h.1, h.2.1, Rel.append h.2.2 h'⟩
  | [], _ :: _, _, _, h, _ => h.elim
  | _ :: _, [], _, _, h, _ => h.elim
theorem Rel.one {m : Mem} : ∀ {ds : List D} {vs : List Value}, Rel m ds vs → ds.all D.one = true
  | [], [], _ => rfl
  | _ :: _, _ :: _, h => by simp only [List.all_cons, h.1, Rel.one h.2.2, Bool.and_self]
  | [], _ :: _, h => h.elim
  | _ :: _, [], h => h.elim

theorem exists_list {α : Type} : ∀ (n : Nat) (Q : Nat → α → Prop), (∀ i, i < n → ∃ y, Q i y) → ∃ ys : List α, ys.length = n ∧ ∀ (i : Nat) (y : α), ys[i]? = some y → Q i y
  | 0, _, _ => ⟨[], rfl, by intro i y h; simp at h⟩
  | n + 1, Q, h => by
    obtain ⟨ys, h1, h2⟩ := exists_list n (fun i => Q (i + 1)) fun i hi => h (i + 1) (by omega)
    obtain ⟨y, hy⟩ := h 0 (by omega)
    refine ⟨y :: ys, by simp [h1], ?_⟩
    intro i z hz
    cases i with
    | zero => simp at hz; subst hz; exact hy
    | succ i => exact h2 i z (by simpa using hz)

theorem mapM_of {α β : Type} (f : α → Option β) : ∀ (l : List α) (r : List β), r.length = l.length → (∀ (i : Nat) (x : α) (y : β), l[i]? = some x → r[i]? = some y → f x = some y) → l.mapM f = some r
  | [], [], _, _ => rfl
  | x :: l, y :: r, hl, h => by
    have h0 := h 0 x y rfl rfl
    have ih := mapM_of f l r (by simpa using hl) fun i x y hx hy => h (i + 1) x y (by simpa using hx) (by simpa using hy)
    simp [List.mapM_cons, h0, ih]
  | [], _ :: _, h, _ => by simp at h
  | _ :: _, [], h, _ => by simp at h

section
variable {H : Type} {enc : TypeId × Value → H} {P : Program} {w : World} {base : Nat} {spare : Nat → Bool} {held : Bool}

theorem pieces {m : Mem} {c : Nat} {cs : List Value} : ∀ (dss : List (List D)) (o : Nat), (∀ (i : Nat) (x : List D), dss[i]? = some x → Rel m x ((cs.drop (o + i * c)).take c)) → (o + dss.length * c = cs.length) → Rel m dss.flatten (cs.drop o)
  | [], o, _, hl => by
    have : cs.drop o = [] := List.drop_eq_nil_of_le (by simp at hl; omega)
    rw [this]; trivial
  | x :: r, o, h, hl => by
    have hl' : o + c + r.length * c = cs.length := by simp only [List.length_cons, Nat.add_mul] at hl; omega
    have h0 := h 0 x rfl
    have ih := pieces (m := m) (cs := cs) (c := c) r (o + c) (fun i x hx => by
      have := h (i + 1) x (by simpa using hx)
      rw [show o + c + i * c = o + (i + 1) * c by rw [Nat.add_mul]; omega]
      exact this) hl'
    have e : cs.drop o = (cs.drop o).take c ++ cs.drop (o + c) := by
      conv => lhs; rw [← List.take_append_drop c (cs.drop o)]
      rw [List.drop_drop]
    rw [e, List.flatten_cons]
    refine Rel.append ?_ ih
    simpa using h0
theorem weights_all_mem {H : Type} {P : Program} {e : TypeId} : ∀ {l : List (DataW H)} {x : DataW H} {y : Nat}, x ∈ l → y ∈ x.weights P e → y ∈ DataW.weightsAll P e l
  | a :: r, x, y, hx, hy => by
    simp only [DataW.weightsAll, List.mem_append]
    rcases List.mem_cons.1 hx with rfl | hx
    · exact .inl hy
    · exact .inr (weights_all_mem hx hy)
theorem wt_of_trod (m : Mem) (hm : ∀ b o, w.heap[b]? = some o → m b = some o) : ∀ (n : Nat) (ty : Ty) (t : TypeId) (cs : List Value) (x : DataW H × List MemPlace), tyOk P ty t = true → ty.dp n = true → (x.1.weights P t).all (· ≤ reachBytes) = true → DataW.trod enc P w base spare held n t cs = some x →
    ∃ ds, rd ty x.1 = some ds ∧ Wt ty ds ∧ Rel m ds cs := by
  intro n
  induction n with
  | zero => intro ty t cs x _ _ _ h; simp [DataW.trod] at h
  | succ n ih =>
    intro ty t cs x hty hdp hwt h
    cases ty with
    | stop => simp [Ty.dp] at hdp
    | bool =>
      simp only [tyOk] at hty
      split at hty
      · obtain ⟨b, rfl, rfl⟩ := DataW.trod_bool ‹_› h
        exact ⟨[eB b], rfl, ⟨b, rfl⟩, rfl, .val _, trivial⟩
      · cases hty
    | int k =>
      simp only [tyOk] at hty
      split at hty
      · have := of_decide_eq_true hty
        subst this
        obtain ⟨z, rfl, rfl, hw⟩ := DataW.trod_int ‹_› h
        exact ⟨[.val (.int k z)], rfl, ⟨z, rfl, hw⟩, rfl, .val _, trivial⟩
      · cases hty
    | str =>
      simp only [tyOk] at hty
      split at hty
      · obtain ⟨s, rfl, rfl, hw⟩ := DataW.trod_string ‹_› h
        refine ⟨[eS s], ?_, ⟨s, rfl, ?_⟩, rfl, .val _, trivial⟩
        · simp [rd]
        · simp only [DataW.weights, List.all_cons, List.all_nil, Bool.and_true, decide_eq_true_eq] at hwt
          simp only [reachBytes] at hwt
          simpa using hwt
      · cases hty
    | slice k by_ e =>
      simp only [tyOk] at hty
      split at hty
      · rename_i e' hu
        simp only [Bool.and_eq_true, decide_eq_true_eq] at hty
        obtain ⟨⟨⟨hk, hk0⟩, hby⟩, he⟩ := hty
        subst hk
        subst hby
        simp only [Ty.dp] at hdp
        rcases DataW.trod_slice hu h with ⟨rfl, rfl⟩ | ⟨a, len, cap, elems, rest, n', hn, rfl, rfl, hb, hlc, hcap, hel, hread, _, _⟩
        · exact ⟨[.sl _ []], rfl, ⟨[], rfl, by simp, by simp, by simp⟩, rfl, .sl0 _ _ _, trivial⟩
        · cases hn
          simp only [DataW.weights, hu, List.all_cons, List.all_append, Bool.and_eq_true, decide_eq_true_eq, List.length_map, reachBytes] at hwt
          obtain ⟨hw1, hw2, _⟩ := hwt
          have each : ∀ i, i < len → ∃ ds, ∃ x, elems[i]? = some x ∧ rd e x.1 = some ds ∧ Wt e ds ∧ ∃ c, w.cells? base (a.add (i * P.cellsOf e')) (P.cellsOf e') = some c ∧ Rel m ds c := by
            intro i hi
            have h1 := hread i hi
            rw [List.getElem?_eq_getElem (by omega)] at h1
            obtain ⟨c, h2, h3⟩ := Option.bind_eq_some_iff.1 h1
            have hwi : ((elems[i]'(by omega)).1.weights P e').all (· ≤ reachBytes) = true := by
              refine List.all_eq_true.2 fun y hy => List.all_eq_true.1 hw2 y ?_
              exact weights_all_mem (List.mem_map.2 ⟨_, List.getElem_mem _, rfl⟩) hy
            obtain ⟨ds, g1, g2, g3⟩ := ih e e' c _ he hdp hwi h3
            exact ⟨ds, _, List.getElem?_eq_getElem (by omega), g1, g2, c, h2, g3⟩
          obtain ⟨es, hl, hes⟩ := exists_list len _ each
          have clen : ∀ (i : Nat) (ds : List D), es[i]? = some ds → ds.length = P.cellsOf e' := by
            intro i ds hi
            obtain ⟨_, _, _, _, c, hc, hr⟩ := hes i ds hi
            rw [← hr.len]; exact (World.cells?_some hc).2.1
          refine ⟨[.sl (P.cellsOf e') es], ?_, ⟨es, rfl, by omega, ?_, ?_⟩, rfl, ?_, trivial⟩
          · simp only [rd]
            rw [mapM_of (rd e) (elems.map (·.1)) es (by simp; omega)]
            · rfl
            · intro i x y hx hy
              obtain ⟨z, h1, h2, _⟩ := hes i y hy
              simp [h1] at hx
              rw [← hx]; exact h2
          · have : es.length ≤ elems.length + rest.length := by omega
            exact Nat.le_trans (Nat.mul_le_mul_right _ this) (of_decide_eq_true hw1)
          · intro x hx
            obtain ⟨i, hi, rfl⟩ := List.getElem_of_mem hx
            obtain ⟨_, _, _, g2, _⟩ := hes i _ (List.getElem?_eq_getElem hi)
            exact ⟨clen i _ (List.getElem?_eq_getElem hi), g2⟩
          · by_cases h0 : len = 0
            · subst h0
              have : es = [] := List.eq_nil_of_length_eq_zero hl
              subst this
              exact .sl0 _ _ _
            · have hone : ∀ (i : Nat) (ds : List D), es[i]? = some ds → ∀ j, j < P.cellsOf e' → w.cell? ((a.add (i * P.cellsOf e')).add j) ≠ none := by
                intro i ds hi j hj
                obtain ⟨_, _, _, _, c, hc, hr⟩ := hes i ds hi
                obtain ⟨_, q1, q2⟩ := World.cells?_some hc
                rw [q2 j hj, List.getElem?_eq_getElem (by omega)]
                simp
              have hfirst := hone 0 _ (List.getElem?_eq_getElem (by omega)) 0 hk0
              simp only [Nat.zero_mul, Addr.add, if_true] at hfirst
              obtain ⟨b, off, spot⟩ := a
              unfold World.cell? at hfirst
              cases hh : w.heap[b]? with
              | none => simp [hh] at hfirst
              | some o =>
                cases o with
                | cells vs T fz =>
                  simp only [hh] at hfirst
                  have hspot : spot = none := by
                    cases spot with
                    | none => rfl
                    | some s => simp at hfirst
                  subst hspot
                  have cellAt : ∀ q, w.cell? ⟨b, q, none⟩ = vs[q]? := by intro q; simp [World.cell?, hh]
                  have addAt : ∀ q, (⟨b, off, none⟩ : Addr).add q = ⟨b, off + q, none⟩ := by intro q; unfold Addr.add; split <;> simp_all
                  have addAt2 : ∀ o q, (⟨b, o, none⟩ : Addr).add q = ⟨b, o + q, none⟩ := by intro o q; unfold Addr.add; split <;> simp_all
                  have key : ∀ (i : Nat) (ds : List D) (j : Nat) (c : D), es[i]? = some ds → ds[j]? = some c → ∃ v, vs[off + i * P.cellsOf e' + j]? = some v ∧ DR m c v := by
                    intro i ds j c hi hj
                    obtain ⟨_, _, _, _, cc, hc, hr⟩ := hes i ds hi
                    obtain ⟨_, q1, q2⟩ := World.cells?_some hc
                    obtain ⟨v, r1, _, r2⟩ := hr.at j c hj
                    have hjl : j < P.cellsOf e' := by rw [← clen i ds hi]; exact (List.getElem?_eq_some_iff.1 hj).1
                    refine ⟨v, ?_, r2⟩
                    rw [← r1, ← q2 j hjl, addAt, addAt2, cellAt]
                  rw [← hl]
                  refine .sl _ es b off cap vs T fz (hm _ _ hh) ?_ (by omega) (fun i j => (vs[off + i * P.cellsOf e' + j]?).getD undef) ?_ ?_
                  · intro x hx
                    obtain ⟨i, hi, rfl⟩ := List.getElem_of_mem hx
                    obtain ⟨_, _, _, _, _, _, hr⟩ := hes i _ (List.getElem?_eq_getElem hi)
                    exact ⟨clen i _ (List.getElem?_eq_getElem hi), hr.one⟩
                  · intro i ds j c hi hj
                    obtain ⟨v, h1, _⟩ := key i ds j c hi hj
                    simp [h1]
                  · intro i ds j c hi hj
                    obtain ⟨v, h1, h2⟩ := key i ds j c hi hj
                    simpa [h1] using h2
                | _ => simp [hh] at hfirst
      · cases hty
    | arr k e =>
      simp only [tyOk] at hty
      split at hty
      · rename_i k' e' hu
        simp only [Bool.and_eq_true, decide_eq_true_eq] at hty
        obtain ⟨⟨hk, hc⟩, he⟩ := hty
        subst hk
        obtain ⟨xs, n', hn, rfl, hlen, hxl, hread⟩ := DataW.trod_array hu h
        cases hn
        simp only [Ty.dp] at hdp
        simp only [DataW.weights, hu] at hwt
        have each : ∀ i, i < k → ∃ ds, ∃ x, xs[i]? = some x ∧ rd e x.1 = some ds ∧ Wt e ds ∧ Rel m ds ((cs.drop (i * P.cellsOf e')).take (P.cellsOf e')) := by
          intro i hi
          have h1 := hread i hi
          rw [List.getElem?_eq_getElem (by omega)] at h1
          have hwi : ((xs[i]'(by omega)).1.weights P e').all (· ≤ reachBytes) = true := by
            refine List.all_eq_true.2 fun y hy => List.all_eq_true.1 hwt y ?_
            exact weights_all_mem (List.mem_map.2 ⟨_, List.getElem_mem _, rfl⟩) hy
          obtain ⟨ds, g1, g2, g3⟩ := ih e e' _ _ he hdp hwi h1
          exact ⟨ds, _, List.getElem?_eq_getElem (by omega), g1, g2, g3⟩
        obtain ⟨es, hl, hes⟩ := exists_list k _ each
        refine ⟨es.flatten, ?_, ⟨es, rfl, hl, ?_⟩, ?_⟩
        · simp only [rd]
          rw [mapM_of (rd e) (xs.map (·.1)) es (by simp; omega)]
          · rfl
          · intro i x y hx hy
            obtain ⟨z, h1, h2, _⟩ := hes i y hy
            simp [h1] at hx
            rw [← hx]; exact h2
        · intro x hx
          obtain ⟨i, hi, rfl⟩ := List.getElem_of_mem hx
          obtain ⟨_, _, _, g2, _⟩ := hes i _ (List.getElem?_eq_getElem hi)
          exact g2
        · have := pieces (m := m) (c := P.cellsOf e') (cs := cs) es 0 (fun i x hx => by
            obtain ⟨_, _, _, _, g3⟩ := hes i x hx
            simpa using g3) (by rw [hl]; omega)
          simpa using this
      · cases hty
    | struct fs =>
      simp only [tyOk] at hty
      split at hty
      · rename_i fs' hu
        obtain ⟨xs, n', hn, rfl, hlen, hxl, hread⟩ := DataW.trod_struct hu h
        cases hn
        simp only [Ty.dp] at hdp
        simp only [DataW.weights, hu] at hwt
        have go : ∀ (fs : List Ty) (gs : List Field) (ys : List (DataW H × List MemPlace)) (off : Nat), tyOkL P fs gs off (P.cellsOf t) = true → dpL n fs = true → (DataW.weightsEach P (gs.map (·.type)) (ys.map (·.1))).all (· ≤ reachBytes) = true → ys.length = gs.length →
            (∀ (i : Nat) (f : Field), gs[i]? = some f → DataW.trod enc P w base spare held n f.type ((cs.drop f.offset).take (P.cellsOf f.type)) = ys[i]?) →
            ∃ ds, rdL fs (ys.map (·.1)) = some ds ∧ WtL fs ds ∧ Rel m ds (cs.drop off) := by
          intro fs
          induction fs with
          | nil =>
            intro gs ys off h1 hd1 hw1 h2 h3
            cases gs with
            | nil =>
              simp only [tyOkL, decide_eq_true_eq] at h1
              have : ys = [] := List.eq_nil_of_length_eq_zero h2
              subst this
              refine ⟨[], rfl, rfl, ?_⟩
              rw [List.drop_eq_nil_of_le (by omega)]
              trivial
            | cons _ _ => simp [tyOkL] at h1
          | cons f fs ihf =>
            intro gs ys off h1 hd1 hw1 h2 h3
            cases gs with
            | nil => simp [tyOkL] at h1
            | cons g gs =>
              cases ys with
              | nil => simp at h2
              | cons y ys =>
                simp only [tyOkL, Bool.and_eq_true, decide_eq_true_eq] at h1
                obtain ⟨⟨e1, e2⟩, e3⟩ := h1
                simp only [dpL, Bool.and_eq_true] at hd1
                simp only [List.map_cons, DataW.weightsEach, List.all_append, Bool.and_eq_true] at hw1
                obtain ⟨a, a1, a2, a3⟩ := ih f g.type _ y e2 hd1.1 hw1.1 (h3 0 g rfl)
                obtain ⟨b, b1, b2, b3⟩ := ihf gs ys _ e3 hd1.2 hw1.2 (by simpa using h2) (fun i f hf => by simpa using h3 (i + 1) f (by simpa using hf))
                refine ⟨a ++ b, by simp [rdL, a1, b1], ⟨a, b, rfl, a2, b2⟩, ?_⟩
                have e : cs.drop off = (cs.drop off).take (P.cellsOf g.type) ++ cs.drop (off + P.cellsOf g.type) := by
                  conv => lhs; rw [← List.take_append_drop (P.cellsOf g.type) (cs.drop off)]
                  rw [List.drop_drop]
                rw [e]
                refine Rel.append ?_ b3
                rw [← e1]; exact a3
        obtain ⟨ds, g1, g2, g3⟩ := go fs fs'.toList xs 0 hty hdp hwt (by simpa using hxl) (fun i f hf => hread i f (by simpa using hf))
        exact ⟨ds, g1, g2, by simpa using g3⟩
      · cases hty
end
end Go.Am
namespace Go.Am
open Go.ChangeShapes Go.WideShapes Go.ChangeAt Go.RowKit
set_option linter.unusedVariables false

/-- A parameter of this type. -/
def WtP : Ty → D → Prop
  | .struct fs, d => ∃ ds, d = .agg ds ∧ WtL fs ds
  | .arr _ _, _ => False
  | ty, d => Wt ty [d]
/-- What a parameter reads as. -/
def rdP {H : Type} (ty : Ty) (x : DataW H) (d : D) : Prop := match ty with
  | .struct fs => ∃ ds, d = .agg ds ∧ rd (.struct fs) x = some ds
  | ty => rd ty x = some [d]
/-- A parameter's types, one for each depth of reading. -/
abbrev TyF := Nat → Ty
def cF (t : Ty) : TyF := fun _ => t
mutual
def noStop : Ty → Bool
  | .stop => false
  | .slice _ _ e => noStop e
  | .arr _ e => noStop e
  | .struct fs => noStopL fs
  | _ => true
def noStopL : List Ty → Bool
  | [] => true
  | f :: fs => noStop f && noStopL fs
end
mutual
theorem dp_noStop : ∀ (n : Nat) (t : Ty), noStop t = true → t.dp n = true
  | 0, t, _ => by cases t <;> rfl
  | n + 1, .stop, h => by simp [noStop] at h
  | n + 1, .slice _ _ e, h => by rw [noStop] at h; rw [Ty.dp]; exact dp_noStop n e h
  | n + 1, .arr _ e, h => by rw [noStop] at h; rw [Ty.dp]; exact dp_noStop n e h
  | n + 1, .struct fs, h => by rw [noStop] at h; rw [Ty.dp]; exact dp_noStopL n fs h
  | n + 1, .bool, _ => rfl
  | n + 1, .int _, _ => rfl
  | n + 1, .str, _ => rfl
theorem dp_noStopL : ∀ (n : Nat) (t : List Ty), noStopL t = true → dpL n t = true
  | n, [], _ => by cases n <;> rfl
  | n, f :: fs, h => by
    rw [noStopL, Bool.and_eq_true] at h
    rw [dpL, dp_noStop n f h.1, dp_noStopL n fs h.2]; rfl
end
def notArr : Ty → Bool
  | .arr _ _ => false
  | _ => true
structure FOkT (P : Program) (F : TyF) (t : TypeId) : Prop where
  deep : ∀ n, (F n).dp n = true
  ok : ∀ n, tyOk P (F n) t = true
  lt : t < P.types.size
  na : ∀ n, notArr (F n) = true
theorem fok_c {P : Program} {y : Ty} {t : TypeId} (h : (noStop y && notArr y && tyOk P y t && decide (t < P.types.size)) = true) : FOkT P (cF y) t := by
  simp only [Bool.and_eq_true, decide_eq_true_eq] at h
  exact ⟨fun n => dp_noStop n y h.1.1.1, fun _ => h.1.2, h.2, fun _ => h.1.1.2⟩
def FsOk (P : Program) : List TyF → List TypeId → Prop
  | [], [] => True
  | F :: Fs, t :: ts => FOkT P F t ∧ FsOk P Fs ts
  | _, _ => False
theorem FsOk.lt {P : Program} : ∀ {Fs : List TyF} {ts : List TypeId}, FsOk P Fs ts → ∀ t ∈ ts, t < P.types.size
  | [], [], _, t, h => by simp at h
  | F :: Fs, u :: ts, h, t, ht => by
    rcases List.mem_cons.1 ht with rfl | ht
    · exact h.1.lt
    · exact FsOk.lt h.2 t ht
  | [], _ :: _, h, _, _ => h.elim
  | _ :: _, [], h, _, _ => h.elim
/-- Read, and of the type. -/
def RWAll {H : Type} : List TyF → List (DataW H) → List D → Prop
  | [], [], [] => True
  | F :: Fs, x :: xs, d :: ds => (∃ n, rdP (F n) x d ∧ WtP (F n) d) ∧ RWAll Fs xs ds
  | _, _, _ => False

section
variable {H : Type} {enc : TypeId × Value → H} {P : Program} {w : World}

theorem rel_single {m : Mem} {ds : List D} {v : Value} (h : Rel m ds [v]) : ∃ d, ds = [d] ∧ DR m d v := by
  cases ds with
  | nil => exact h.elim
  | cons d r =>
    cases r with
    | nil => exact ⟨d, rfl, h.2.1⟩
    | cons _ _ => exact h.2.2.elim
theorem rel_agg {m : Mem} {ds : List D} {cs : Array Value} (h : Rel m ds cs.toList) : DR m (.agg ds) (.agg cs) := by
  refine .agg _ _ (by simpa using h.len) ?_
  intro i c v hc hv
  obtain ⟨u, h1, _, h2⟩ := h.at i c hc
  have : cs[i]? = some u := by simpa using h1
  rw [hv] at this; cases this; exact h2

theorem par_of_trod (m : Mem) (hm : ∀ (b : Nat) (o : Obj), w.heap[b]? = some o → m b = some o) {r : Reach} {b0 base : Nat} {sp : Nat → Bool} {held : Bool} {F : TyF} {t : TypeId} {v : Value} {x : DataW H} {ps : List MemPlace}
    (hF : FOkT P F t) (hwt : (x.weights P t).all (· ≤ reachBytes) = true) (hval : Value.okWide P w r b0 t v) (h : DataW.Trod enc P w base sp held t v x ps) : ∃ d n, rdP (F n) x d ∧ WtP (F n) d ∧ DR m d v := by
  obtain ⟨n, hn⟩ := h
  have hty := hF.ok n
  have hna := hF.na n
  obtain ⟨ds, h1, h2, h3⟩ := wt_of_trod m hm n (F n) t _ _ hty (hF.deep n) hwt hn
  suffices h : ∃ d, rdP (F n) x d ∧ WtP (F n) d ∧ DR m d v from let ⟨d, a⟩ := h; ⟨d, n, a⟩
  clear hF hn
  generalize F n = ty at *
  cases ty with
  | bool =>
    simp only [tyOk] at hty
    split at hty
    · obtain ⟨b, rfl⟩ := okWide_bool ‹_› hval
      obtain ⟨d, rfl, hd⟩ := rel_single h3
      exact ⟨d, h1, h2, hd⟩
    · cases hty
  | int k =>
    simp only [tyOk] at hty
    split at hty
    · obtain ⟨b, rfl⟩ := okWide_int ‹_› hval
      obtain ⟨d, rfl, hd⟩ := rel_single h3
      exact ⟨d, h1, h2, hd⟩
    · cases hty
  | str =>
    simp only [tyOk] at hty
    split at hty
    · obtain ⟨b, rfl⟩ := okWide_string ‹_› hval
      obtain ⟨d, rfl, hd⟩ := rel_single h3
      exact ⟨d, h1, h2, hd⟩
    · cases hty
  | stop => exact (by simpa [Wt] using h2 : False).elim
  | slice k by_ e =>
    simp only [tyOk] at hty
    split at hty
    · obtain ⟨a, l, c, rfl⟩ := okWide_slice ‹_› hval
      obtain ⟨d, rfl, hd⟩ := rel_single h3
      exact ⟨d, h1, h2, hd⟩
    · cases hty
  | arr n e => cases hna
  | struct fs =>
    simp only [tyOk] at hty
    split at hty
    · obtain ⟨cs, rfl, _⟩ := okWide_struct ‹_› hval
      exact ⟨.agg ds, ⟨ds, rfl, h1⟩, ⟨ds, rfl, h2⟩, rel_agg h3⟩
    · cases hty

theorem pars_of_trod (m : Mem) (hm : ∀ (b : Nat) (o : Obj), w.heap[b]? = some o → m b = some o) {r : Reach} {b0 base : Nat} {sp : Nat → Bool} {held : Bool} : ∀ {Fs : List TyF} {ts : List TypeId} {vs : List Value} {xs : List (DataW H)} {ps : List MemPlace},
    FsOk P Fs ts → (DataW.weightsEach P ts xs).all (· ≤ reachBytes) = true → (∀ (j : Nat) t v, ts[j]? = some t → vs[j]? = some v → Value.okWide P w r b0 t v) → DataW.TrodAll enc P w base sp held ts vs xs ps →
    ∃ ds, RWAll Fs xs ds ∧ DRs m ds vs
  | [], [], vs, xs, ps, _, _, _, h => by
    obtain ⟨rfl, rfl, rfl⟩ := trodAll_nil h
    exact ⟨[], trivial, rfl, by intro i d v hd; simp at hd⟩
  | F :: Fs, t :: ts, vs, xs, ps, hty, hwt, hval, h => by
    obtain ⟨v, vs', x, xs', p, q, rfl, rfl, rfl, h1, h2⟩ := trodAll_cons h
    simp only [DataW.weightsEach, List.all_append, Bool.and_eq_true] at hwt
    obtain ⟨d, n, d1, d2, d3⟩ := par_of_trod m hm hty.1 hwt.1 (hval 0 t v rfl rfl) h1
    obtain ⟨ds, e1, e3⟩ := pars_of_trod m hm hty.2 hwt.2 (fun j t v ht hv => hval (j + 1) t v (by simpa using ht) (by simpa using hv)) h2
    refine ⟨d :: ds, ⟨⟨n, d1, d2⟩, e1⟩, by simpa using e3.1, ?_⟩
    intro i c u hc hu
    cases i with
    | zero => simp at hc hu; subst hc; subst hu; exact d3
    | succ i => exact e3.2 i c u (by simpa using hc) (by simpa using hu)
  | [], _ :: _, _, _, _, h, _, _, _ => h.elim
  | _ :: _, [], _, _, _, h, _, _, _ => h.elim

/-- What was read once reads the same, where nothing that was there turned. -/
theorem again {W W' : World} (hle : ∀ (b : Nat) (o : Obj), W.heap[b]? = some o → W'.heap[b]? = some o) (hl : laidOutB P = true) (hm : mapsRowed P = true)
    (hz : ((List.range P.types.size).all fun t => match P.underlying t with | some (.slice e) => decide (0 < P.cellsOf e) | _ => true) = true) {sp : Nat → Bool} :
    ∀ {ts : List TypeId} {vs : List Value} {ds : List (DataW H)} {ps : List MemPlace}, (∀ t ∈ ts, t < P.types.size) → DataW.TrodAll enc P W 0 (fun _ => true) true ts vs ds ps →
      (∀ p ∈ ps, p.block < W.heap.size) → (∀ p ∈ ps, sp p.block = true) → DataW.TrodAll enc P W' 0 sp true ts vs ds ps
  | [], [], [], _, _, h, _, _ => h
  | t :: ts, v :: vs, d :: ds, _, ht, ⟨p, q, ⟨n, h1⟩, h2, e⟩, hlt, hs => by
    refine ⟨p, q, ⟨n, ?_⟩, again hle hl hm hz (fun t h => ht t (by simp [h])) h2 (fun x hx => hlt x (by rw [e]; exact List.mem_append_right _ hx)) (fun x hx => hs x (by rw [e]; exact List.mem_append_right _ hx)), e⟩
    refine DataW.trod_stays (kids_rows hl hm) (fun {t e} h1 h2 => slices_full_of P hz t e h1 h2) (fun h => by cases h) (ht t (by simp)) h1 ?_ (fun x hx => hs x (by rw [e]; exact List.mem_append_left _ hx))
    intro x hx
    have hb := hlt x (by rw [e]; exact List.mem_append_left _ hx)
    have hh : W'.heap[x.block]? = W.heap[x.block]? := by
      rw [Array.getElem?_eq_getElem hb]
      exact hle _ _ (Array.getElem?_eq_getElem hb)
    cases x with
    | cell b off =>
      show W'.cell? ⟨b, off, none⟩ = W.cell? ⟨b, off, none⟩
      unfold World.cell?
      rw [show W'.heap[b]? = W.heap[b]? from hh]
    | map b => exact hh

def frm0 (W : World) : Frm := ⟨fun _ => none, W.os, W.output, W.heap.size⟩
theorem memOK0 (W : World) : MemOK (fun b => W.heap[b]?) (frm0 W) W := by
  refine ⟨fun b o h => h, ⟨fun b o h => by simp [frm0] at h, rfl, rfl, Nat.le_refl _, ?_⟩, fun _ _ => rfl⟩
  intro b c t f hb hc
  have : W.heap[b]? = none := Array.getElem?_eq_none hb
  rw [hc] at this; cases this
theorem kept0 {W W' : World} {m' : Mem} (hle : (show Mem from fun b => W.heap[b]?).le m') (h : MemOK m' (frm0 W) W') :
    W.keptBut W' (fun _ => False) ∧ (∀ a, W'.frozen? a = W.frozen? a) ∧ (∀ (b : Nat) (o : Obj), W.heap[b]? = some o → W'.heap[b]? = some o) := by
  have hh : ∀ (b : Nat) (o : Obj), W.heap[b]? = some o → W'.heap[b]? = some o := fun b o hb => h.mem b o (hle b o hb)
  refine ⟨⟨h.frame.quiet.os, h.frame.quiet.out, fun i hi => ?_⟩, fun a => ?_, hh⟩
  · have h1 := Array.getElem?_eq_getElem hi
    have h2 := hh i _ h1
    rw [h1, h2]
    split
    · rename_i e1 e2
      rw [e1] at e2
      simp only [Option.some.injEq, Obj.cells.injEq] at e2
      obtain ⟨rfl, rfl, rfl⟩ := e2
      exact ⟨rfl, rfl, rfl, fun _ _ => rfl⟩
    · rename_i e1 e2
      rw [e1] at e2
      simp only [Option.some.injEq, Obj.map.injEq] at e2
      exact Or.inr ⟨e2.1.symm, e2.2.symm⟩
    · rfl
  · unfold World.frozen?
    cases hb : W.heap[a.block]? with
    | some o => rw [hh _ _ hb]
    | none =>
      have hge : W.heap.size ≤ a.block := by
        refine Nat.le_of_not_lt fun hlt => ?_
        rw [Array.getElem?_eq_getElem hlt] at hb
        cases hb
      cases hb' : W'.heap[a.block]? with
      | none => rfl
      | some o =>
        cases o with
        | cells c t f =>
          have := h.frame.quiet.frz _ c t f hge hb'
          subst this
          simp
        | _ => rfl

/-- THE CONTRACT of a law that answers true. -/
theorem law_contract {G : Gl} {f : FuncId} {fn : Func} {s : ChangeSpec} {Fs : List TyF} {tr : TypeId} {W : World} {base : Nat} {args : Array Value} {ds gs : List (DataW H)} {before : List MemPlace}
    (hl : laidOutB P = true) (hm : mapsRowed P = true)
    (hz : ((List.range P.types.size).all fun t => match P.underlying t with | some (.slice e) => decide (0 < P.cellsOf e) | _ => true) = true)
    (hty : FsOk P Fs fn.params.toList) (hres : fn.resultTypes = #[tr]) (htr : P.underlying tr = some .bool)
    (hvars : s.vars = []) (hs : ∀ ds : List (DataW H), ds.length = Fs.length → s.fn H ds = ⟨[.lit (.bool true)], ds, []⟩)
    (hrun : ∀ dss, RWAll Fs ds dss → PCalls P G f dss (· = eB true))
    (hG : GOk G (fun b : Nat => W.heap[b]?))
    {vt : List TypeId} (hvt : vt = []) (hwt : (DataW.weightsEach P (fn.params.toList ++ vt) (ds ++ gs)).all (· ≤ reachBytes) = true)
    (hval : ∀ (j : Nat) t v, fn.params[j]? = some t → args[j]? = some v → Value.okWide P W .any base t v)
    (hW : DataW.Whole enc P fn.params.toList s.vars false W args.toList ds gs before) :
    Calls P f args W fun e W' => ∃ v, e = .returned v ∧ s.post enc P fn false true false false W args v W' := by
  have hW' := hW
  obtain ⟨p, q, hA, hV, rfl, hfz, hnd⟩ := hW
  rw [hvars] at hV
  obtain ⟨rfl, rfl⟩ := trodVars_none hV
  subst hvt
  rw [List.append_nil, List.append_nil] at hwt
  obtain ⟨dss, d1, d3⟩ := pars_of_trod (fun b => W.heap[b]?) (fun b o h => h) hty hwt (fun j t v ht hv => hval j t v (by simpa using ht) (by simpa using hv)) hA
  have hc := (hrun dss d1).run (fun b => W.heap[b]?) (frm0 W) W args.toList hG (memOK0 W) d3
  have hlen : ds.length = Fs.length := by
    have : ∀ (tys : List TyF) (ds : List (DataW H)) (dss : List D), RWAll tys ds dss → ds.length = tys.length := by
      intro tys
      induction tys with
      | nil => intro ds dss h; cases ds <;> cases dss <;> simp_all [RWAll]
      | cons y tys ih =>
        intro ds dss h
        cases ds with
        | nil => cases dss <;> simp [RWAll] at h
        | cons x ds =>
          cases dss with
          | nil => simp [RWAll] at h
          | cons d dss => simp [ih ds dss h.2]
    exact this _ _ _ d1
  refine hc.mono fun e W' ⟨v, m', r, he, hr, hle, hM, hv⟩ => ?_
  subst hr
  have hvb : v = .bool true := by cases hv; rfl
  subst hvb
  obtain ⟨k1, k2, k3⟩ := kept0 hle hM
  have hlt := hW'.lt
  refine ⟨_, he, ?_⟩
  have hfn := hs (ds ++ []) (by simpa using hlen)
  simp only [List.append_nil] at hfn
  refine post_of_same (pa := p) (pv := []) hW' (fun b sp hd => ?_) (fun sp hsp => ?_) (fun sp hsp => ?_) rfl (World.keptBut_mono (fun _ h => h.elim) k1) k2 (ok_one hres rfl (okWide_bool_mk htr _))
  · rw [List.append_nil, hfn, hres]
    exact trodAll_cons_mk (shut_bool htr true) trodAll_mk0
  · rw [List.append_nil, hfn]
    exact again k3 hl hm hz hty.lt hA (fun x hx => hlt x (by simpa using hx)) (fun x hx => hsp x (by simpa using hx))
  · rw [List.append_nil, hfn, hvars]; rfl

end
end Go.Am
namespace Go.Am
set_option linter.unusedVariables false

theorem list_of {α : Type} (f : α → List D) (Q : α → Prop) : ∀ (es : List (List D)), (∀ x ∈ es, ∃ y, x = f y ∧ Q y) → ∃ l : List α, es = l.map f ∧ ∀ y ∈ l, Q y
  | [], _ => ⟨[], rfl, by simp⟩
  | x :: es, h => by
    obtain ⟨y, rfl, hy⟩ := h x (by simp)
    obtain ⟨l, rfl, hl⟩ := list_of f Q es fun x hx => h x (by simp [hx])
    exact ⟨y :: l, rfl, by intro z hz; rcases List.mem_cons.1 hz with rfl | hz; exact hy; exact hl z hz⟩

theorem inI_of_wf {n : Int} (h : (Lit.int .i64 n).wf = true) : inI n := by
  have := Go.bounds_i64 h
  exact this
theorem wt_int {x : List D} (h : Wt (.int .i64) x) : ∃ n, x = [eI n] ∧ inI n := by
  obtain ⟨n, rfl, hn⟩ := h
  exact ⟨n, rfl, inI_of_wf hn⟩
theorem wt_str {x : List D} (h : Wt .str x) : ∃ s, x = [eS s] ∧ s.size ≤ 140737488351232 := h
theorem wt_bool {x : List D} (h : Wt .bool x) : ∃ b, x = [eB b] := h
end Go.Am
namespace Go.Am
set_option linter.unusedVariables false
abbrev NILD : D := .val (.slice none 0 0)
/-- A slice as data; an empty one may be nil. -/
def rowD (k : Nat) (nl : Bool) (es : List (List D)) : D := if nl && es.isEmpty then NILD else .sl k es
section
variable {k : Nat} {nl : Bool} {es : List (List D)}
@[simp] theorem lenP_row : lenP (rowD k nl es) = some (eI es.length) := by
  unfold rowD
  split
  · rename_i h; simp at h; simp [h.2, eI, lenP]
  · rfl
@[simp] theorem oneP_row : oneP (rowD k nl es) = true := by unfold rowD; split <;> rfl
@[simp] theorem one_row : (rowD k nl es).one = true := by unfold rowD; split <;> rfl
theorem ixP_row {i : Nat} : ixP k (rowD k nl es) (eI (i : Int)) = es[i]? := by
  unfold rowD
  split
  · rename_i h; simp at h; simp [h.2, eI, ixP]
  · simp
@[simp] theorem elP_row : elP (rowD k nl es) = some (if nl && es.isEmpty then (0, []) else (k, es)) := by
  unfold rowD; split <;> rfl
end
inductive Tm where
  | mk (op n : Int) (name : ByteArray) (nl : Bool) (kids : List Tm)
namespace Tm
def op : Tm → Int | .mk o _ _ _ _ => o
def num : Tm → Int | .mk _ n _ _ _ => n
def name : Tm → ByteArray | .mk _ _ s _ _ => s
def nl : Tm → Bool | .mk _ _ _ b _ => b
def kids : Tm → List Tm | .mk _ _ _ _ l => l
mutual
def cells : Tm → List D
  | .mk o n s b ks => [eI o, eI n, eS s, rowD 4 b (rows ks)]
def rows : List Tm → List (List D)
  | [] => []
  | t :: r => cells t :: rows r
end
def d (t : Tm) : D := .agg t.cells
mutual
def sz : Tm → Nat
  | .mk _ _ _ _ ks => 2 + szL ks
def szL : List Tm → Nat
  | [] => 0
  | t :: r => 1 + sz t + szL r
end
theorem rows_map : ∀ l : List Tm, rows l = l.map cells
  | [] => rfl
  | t :: r => by simp [rows, rows_map r]
@[simp] theorem rows_len {l : List Tm} : (rows l).length = l.length := by simp [rows_map]
theorem rows_get {l : List Tm} {i : Nat} {t : Tm} (h : l[i]? = some t) : (rows l)[i]? = some t.cells := by simp [rows_map, h]
theorem ixP_kid {l : List Tm} {b : Bool} {i : Nat} {t : Tm} (h : l[i]? = some t) : ixP 4 (rowD 4 b (rows l)) (eI (i : Int)) = some t.cells := by rw [ixP_row, rows_get h]
theorem szL_len : ∀ l : List Tm, l.length ≤ szL l
  | [] => Nat.le_refl 0
  | t :: r => by simp only [szL, List.length_cons]; have := szL_len r; omega
theorem szL_mem : ∀ {l : List Tm} {t : Tm}, t ∈ l → sz t + 1 ≤ szL l
  | a :: r, t, h => by
    simp only [szL]
    rcases List.mem_cons.1 h with rfl | h
    · omega
    · have := szL_mem h; omega
theorem sz_kid {t k : Tm} (h : k ∈ t.kids) : k.sz + 3 ≤ t.sz := by
  cases t with
  | mk o n s b ks => simp only [sz]; have := szL_mem (show k ∈ ks from h); omega
theorem sz_len {t : Tm} : t.kids.length + 2 ≤ t.sz := by
  cases t with
  | mk o n s b ks => simp only [sz]; have := szL_len ks; show ks.length + 2 ≤ _; omega
theorem ind {P : Tm → Prop} (h : ∀ t : Tm, (∀ k ∈ t.kids, P k) → P t) (t : Tm) : P t := by
  have : ∀ (n : Nat) (t : Tm), t.sz ≤ n → P t := by
    intro n
    induction n with
    | zero => intro t ht; cases t; simp [sz] at ht
    | succ n ih => intro t ht; exact h t fun k hk => ih k (by have := sz_kid hk; omega)
  exact this _ t (Nat.le_refl _)
/-- No slice and no name is too long, every number fits. -/
inductive Ok : Tm → Prop where
  | mk (o n : Int) (s : ByteArray) (b : Bool) (ks : List Tm) (ho : -9223372036854775808 ≤ o ∧ o ≤ 9223372036854775807) (hn : -9223372036854775808 ≤ n ∧ n ≤ 9223372036854775807) (hs : s.size ≤ 140737488355328) (hl : ks.length * 56 ≤ 140737488355328) (hk : ∀ k ∈ ks, Ok k) : Ok (.mk o n s b ks)
theorem Ok.kid {t k : Tm} (h : Ok t) (hk : k ∈ t.kids) : Ok k := by cases h with | mk o n s b ks ho hn hs hl hk' => exact hk' k hk
theorem Ok.len {t : Tm} (h : Ok t) : t.kids.length * 56 ≤ 140737488355328 := by cases h; assumption
theorem cells_eq (t : Tm) : t.cells = [eI t.op, eI t.num, eS t.name, rowD 4 t.nl (rows t.kids)] := by cases t; rfl
theorem d_eq (t : Tm) : t.d = .agg [eI t.op, eI t.num, eS t.name, rowD 4 t.nl (rows t.kids)] := by cases t; rfl
@[simp] theorem aggP_d (t : Tm) : aggP 4 t.d = true := by rw [d_eq]; simp
@[simp] theorem cel0 (t : Tm) : celD t.d 0 = eI t.op := by rw [d_eq]; rfl
@[simp] theorem cel1 (t : Tm) : celD t.d 1 = eI t.num := by rw [d_eq]; rfl
@[simp] theorem cel2 (t : Tm) : celD t.d 2 = eS t.name := by rw [d_eq]; rfl
@[simp] theorem cel3 (t : Tm) : celD t.d 3 = rowD 4 t.nl (rows t.kids) := by rw [d_eq]; rfl
@[simp] theorem agg_d (t : Tm) : D.agg [eI t.op, eI t.num, eS t.name, rowD 4 t.nl (rows t.kids)] = t.d := (d_eq t).symm
@[simp high] theorem atP_cells (t : Tm) : atP true 4 0 t.cells = some t.d := by rw [d_eq, cells_eq]; rfl
@[simp] theorem at0 (t : Tm) : t.cells[0]? = some (eI t.op) := by rw [cells_eq]; rfl
@[simp] theorem at1 (t : Tm) : t.cells[1]? = some (eI t.num) := by rw [cells_eq]; rfl
@[simp] theorem at2 (t : Tm) : t.cells[2]? = some (eS t.name) := by rw [cells_eq]; rfl
@[simp] theorem at3 (t : Tm) : t.cells[3]? = some (rowD 4 t.nl (rows t.kids)) := by rw [cells_eq]; rfl
end Tm

/-! ### Loops over lists -/
/-- A loop that goes along a list: what is left says what comes of it. -/
theorem iterL_list {β α σ : Type} {f : List D → Option (List D ⊕ β)} (l : List α) (S : Nat → σ → List D) (R : List α → σ → β) (Inv : Nat → σ → Prop)
    (h0 : ∀ s, Inv l.length s → f (S l.length s) = some (.inr (R [] s)))
    (h1 : ∀ (i : Nat) (a : α) (s : σ), l[i]? = some a → i < l.length → Inv i s →
      (∃ s', f (S i s) = some (.inl (S (i + 1) s')) ∧ R (a :: l.drop (i + 1)) s = R (l.drop (i + 1)) s' ∧ Inv (i + 1) s') ∨ f (S i s) = some (.inr (R (a :: l.drop (i + 1)) s))) :
    ∀ (m i : Nat) (s : σ), Inv i s → l.length - i < m → i ≤ l.length → iterL f m (S i s) = some (R (l.drop i) s)
  | 0, i, s, _, h, _ => absurd h (Nat.not_lt_zero _)
  | m + 1, i, s, hi, hm, hle => by
    rw [iterL_s]
    by_cases h : i < l.length
    · have hg := List.getElem?_eq_getElem h
      have e : l.drop i = l[i] :: l.drop (i + 1) := List.drop_eq_getElem_cons h
      rcases h1 i _ s hg h hi with ⟨s', g1, g2, g3⟩ | g1
      · rw [g1, e, g2]
        exact iterL_list l S R Inv h0 h1 m (i + 1) s' g3 (by omega) h
      · rw [g1, e]; rfl
    · have : i = l.length := by omega
      subst this
      rw [h0 s hi, List.drop_eq_nil_of_le (Nat.le_refl _)]; rfl
theorem opCases (op : Int) : op = 1 ∨ op = 2 ∨ op = 3 ∨ op = 4 ∨ op = 5 ∨ op = 6 ∨ op = 7 ∨ op = 8 ∨ op = 9 ∨ op = 10 ∨ op = 11 ∨ op = 12 ∨ op = 13 ∨ op = 14 ∨ op = 15 ∨ op = 16 ∨ op = 17 ∨ op = 18 ∨ (op < 1 ∨ op > 18) := by omega
end Go.Am
namespace Go.Am
set_option linter.unusedVariables false
@[simp] theorem isFc_self {f : FuncId} : isFc f (.val (.func (.func f) #[] #[])) = true := by simp [isFc]
@[simp] theorem fnOf_self {f : FuncId} {cs : List D} : fnOf f (.fn (.func f) [] cs) = some cs := by simp [fnOf]
@[simp] theorem flat_eB {b : Bool} : (eB b).flat = true := rfl
@[simp] theorem flat_eI {b : Int} : (eI b).flat = true := rfl
@[simp] theorem flat_eS {b : ByteArray} : (eS b).flat = true := rfl
@[simp] theorem u_neg {a : Int} : unP .neg (eI a) = some (eI (IntKind.i64.wrap (-a))) := by rw [← Int.zero_sub]; rfl
theorem zB : (D.val (.bool false)) = eB false := rfl
theorem zI : (D.val (.int .i64 0)) = eI 0 := rfl
theorem zS : (D.val (.string ⟨#[]⟩)) = eS ⟨#[]⟩ := rfl
@[simp] theorem agg3 (a b c : D) : aggP 3 (.agg [a, b, c]) = (a.one && (b.one && c.one)) := by simp [aggP]
@[simp] theorem agg4 (a b c e : D) : aggP 4 (.agg [a, b, c, e]) = (a.one && (b.one && (c.one && e.one))) := by simp [aggP]
@[simp] theorem cel_0 {a : D} {l : List D} : celD (.agg (a :: l)) 0 = a := rfl
@[simp] theorem cel_1 {a b : D} {l : List D} : celD (.agg (a :: b :: l)) 1 = b := rfl
@[simp] theorem cel_2 {a b c : D} {l : List D} : celD (.agg (a :: b :: c :: l)) 2 = c := rfl
@[simp] theorem cel_3 {a b c e : D} {l : List D} : celD (.agg (a :: b :: c :: e :: l)) 3 = e := rfl
theorem add1 {bt : Bool} {i : Nat} (h : i < 1000000000000000000) : binP bt .add (eI (i : Int)) (eI 1) = some (eI ((i + 1 : Nat) : Int)) := by
  rw [b_add (by omega) (by omega)]; rfl
theorem add1i {bt : Bool} {i : Int} (h : -9223372036854775809 ≤ i) (h' : i < 9223372036854775807) : binP bt .add (eI i) (eI 1) = some (eI (i + 1)) := by
  rw [b_add (by omega) (by omega)]
section
variable {α β : Type} {c : Prop} [Decidable c]
@[simp] theorem ite_inl {a b : α} : (if c then (Sum.inl a : α ⊕ β) else Sum.inl b) = Sum.inl (if c then a else b) := by split <;> rfl
@[simp] theorem ite_inr {a b : β} : (if c then (Sum.inr a : α ⊕ β) else Sum.inr b) = Sum.inr (if c then a else b) := by split <;> rfl
@[simp] theorem ite_cons {a b : α} {l r : List α} : (if c then a :: l else b :: r) = (if c then a else b) :: (if c then l else r) := by split <;> rfl
@[simp] theorem ite_eI {a b : Int} : (if c then eI a else eI b) = eI (if c then a else b) := by split <;> rfl
@[simp] theorem ite_eS {a b : ByteArray} : (if c then eS a else eS b) = eS (if c then a else b) := by split <;> rfl
@[simp] theorem ite_tup {a b : List D} : (if c then D.tup a else D.tup b) = D.tup (if c then a else b) := by split <;> rfl
@[simp] theorem ite_agg {a b : List D} : (if c then D.agg a else D.agg b) = D.agg (if c then a else b) := by split <;> rfl
@[simp] theorem jnX_ite {f : List D → Option β} {x y : List D ⊕ β} : jnX f (if c then x else y) = if c then jnX f x else jnX f y := by split <;> rfl
@[simp] theorem obind_ite {x y : Option α} {f : α → Option β} : obind (if c then x else y) f = if c then obind x f else obind y f := by split <;> rfl
end
section
variable {γ : Type} {c : Prop} [Decidable c]
@[simp] theorem gD_ite {x y : D} {w : Bool} {p : Option D} : gD (if c then x else y) w p = if c then gD x w p else gD y w p := by split <;> rfl
@[simp] theorem gX_ite {x y : D} {w : Bool} {p q : Option γ} : gX (if c then x else y) w p q = if c then gX x w p q else gX y w p q := by split <;> rfl
@[simp] theorem pick_ite {x y a b : D} : pickP (if c then x else y) a b = if c then pickP x a b else pickP y a b := by split <;> rfl
@[simp] theorem oif_ite {x y : D} {p q : Option γ} : oif (if c then x else y) p q = if c then oif x p q else oif y p q := by split <;> rfl
@[simp] theorem un_ite {x y : D} {o : UnOp} : unP o (if c then x else y) = if c then unP o x else unP o y := by split <;> rfl
end
@[simp] theorem eB_inj {a b : Bool} : eB a = eB b ↔ a = b := ⟨fun h => by cases h; rfl, fun h => by rw [h]⟩
@[simp] theorem eI_inj {a b : Int} : eI a = eI b ↔ a = b := ⟨fun h => by cases h; rfl, fun h => by rw [h]⟩
@[simp] theorem eS_inj {a b : ByteArray} : eS a = eS b ↔ a = b := ⟨fun h => by cases h; rfl, fun h => by rw [h]⟩
attribute [simp] zB zI zS
end Go.Am
namespace Go.Am
set_option linter.unusedVariables false
def IM (M : List (Value × D)) : Prop := ∀ e ∈ M, ∃ i, e.1 = .int .i64 i
def getI : List (Value × D) → Int → Option D
  | [], _ => none
  | (.int .i64 s, d) :: r, x => if s = x then some d else getI r x
  | _ :: r, x => getI r x
theorem im_cons {e : Value × D} {M : List (Value × D)} (h : IM (e :: M)) : (∃ s, e.1 = .int .i64 s) ∧ IM M := ⟨h e (by simp), fun x hx => h x (by simp [hx])⟩
theorem same_int (a b : Int) : Instr.sameNow (.int .i64) (.int .i64 a) (.int .i64 b) = some (decide (b = a)) := by
  by_cases h : a = b
  · subst h; simp [Instr.sameNow]
  · have h' : ¬ b = a := fun e => h e.symm
    simp [Instr.sameNow, h, h']
theorem mapPut_int {M : List (Value × D)} (h : IM M) (x : Int) (d : D) : ∃ M', mapPut (.int .i64) (.int .i64 x) d M = some M' ∧ IM M' ∧ (∀ y, getI M' y = if y = x then some d else getI M y) ∧ M'.length = M.length + (if (getI M x).isSome then 0 else 1) := by
  induction M with
  | nil => exact ⟨[(.int .i64 x, d)], rfl, by intro e he; simp at he; exact ⟨x, by rw [he]⟩, fun y => by simp [getI, eq_comm], rfl⟩
  | cons e r ih =>
    obtain ⟨⟨s, hs⟩, hr⟩ := im_cons h
    obtain ⟨k, d0⟩ := e
    simp only at hs
    subst hs
    simp only [mapPut, same_int, getI]
    by_cases hx : s = x
    · refine ⟨(.int .i64 x, d) :: r, by simp [hx], ?_, fun y => ?_, by simp [hx]⟩
      · intro e he
        rcases List.mem_cons.1 he with rfl | he
        · exact ⟨x, rfl⟩
        · exact hr e he
      · simp only [getI]
        by_cases hy : y = x
        · simp [hy]
        · have : ¬ x = y := fun h => hy h.symm
          subst hx
          simp [hy, this]
    · obtain ⟨M', h1, h2, h3, h4⟩ := ih hr
      refine ⟨(.int .i64 s, d0) :: M', by simp [hx, h1], ?_, fun y => ?_, by simp [hx, h4]; omega⟩
      · intro e he
        rcases List.mem_cons.1 he with rfl | he
        · exact ⟨s, rfl⟩
        · exact h2 e he
      · simp only [getI, h3 y]
        by_cases hy : y = x
        · subst hy; simp [hx]
        · simp [hy]
theorem putI {M : List (Value × D)} (h : IM M) (x : Int) (d : D) : ∃ M', putP (.int .i64) M (eI x) d = some M' ∧ IM M' ∧ (∀ y, getI M' y = if y = x then some d else getI M y) ∧ M'.length = M.length + (if (getI M x).isSome then 0 else 1) := mapPut_int h x d
end Go.Am
namespace Go.Am
set_option linter.unusedVariables false
theorem bl_irrefl : ∀ x : List UInt8, Op.bytesLess x x = false
  | [] => rfl
  | a :: x => by simp [Op.bytesLess, bl_irrefl x]
theorem bl_trans : ∀ x y z : List UInt8, Op.bytesLess x y = true → Op.bytesLess y z = true → Op.bytesLess x z = true
  | [], [], z, h, _ => by simp [Op.bytesLess] at h
  | [], b :: y, [], _, h => by simp [Op.bytesLess] at h
  | [], b :: y, c :: z, _, _ => rfl
  | a :: x, [], z, h, _ => by simp [Op.bytesLess] at h
  | a :: x, b :: y, [], _, h => by simp [Op.bytesLess] at h
  | a :: x, b :: y, c :: z, h1, h2 => by
    simp only [Op.bytesLess, Bool.or_eq_true, Bool.and_eq_true, decide_eq_true_eq, beq_iff_eq, UInt8.lt_iff_toNat_lt] at *
    rcases h1 with h1 | ⟨rfl, h1⟩
    · rcases h2 with h2 | ⟨rfl, h2⟩
      · exact .inl (by omega)
      · exact .inl h1
    · rcases h2 with h2 | ⟨rfl, h2⟩
      · exact .inl h2
      · exact .inr ⟨rfl, bl_trans x y z h1 h2⟩
theorem bl_tri : ∀ x y : List UInt8, Op.bytesLess x y = true ∨ x = y ∨ Op.bytesLess y x = true
  | [], [] => .inr (.inl rfl)
  | [], b :: y => .inl rfl
  | a :: x, [] => .inr (.inr rfl)
  | a :: x, b :: y => by
    simp only [Op.bytesLess, Bool.or_eq_true, Bool.and_eq_true, decide_eq_true_eq, beq_iff_eq, UInt8.lt_iff_toNat_lt, List.cons.injEq]
    by_cases h1 : a.toNat < b.toNat
    · exact .inl (.inl h1)
    · by_cases h2 : b.toNat < a.toNat
      · exact .inr (.inr (.inl h2))
      · have : a = b := UInt8.toNat_inj.1 (by omega)
        subst this
        rcases bl_tri x y with h | h | h
        · exact .inl (.inr ⟨rfl, h⟩)
        · exact .inr (.inl ⟨rfl, h⟩)
        · exact .inr (.inr (.inr ⟨rfl, h⟩))
theorem blt_irrefl (x : ByteArray) : blt x x = false := bl_irrefl _
theorem blt_trans {x y z : ByteArray} (h : blt x y = true) (h' : blt y z = true) : blt x z = true := bl_trans _ _ _ h h'
theorem blt_tri (x y : ByteArray) : blt x y = true ∨ x = y ∨ blt y x = true := by
  rcases bl_tri x.toList y.toList with h | h | h
  · exact .inl h
  · exact .inr (.inl (bytes_ext h))
  · exact .inr (.inr h)
/-- y comes behind x. -/
theorem gt_eq (y x : ByteArray) : (!(blt y x || decide (y = x))) = blt x y := by
  rcases blt_tri x y with h | h | h
  · have h1 : blt y x = false := by
      cases hq : blt y x with
      | false => rfl
      | true => have := blt_trans h hq; rw [blt_irrefl] at this; cases this
    have h2 : y ≠ x := by rintro rfl; rw [blt_irrefl] at h; cases h
    simp [h, h1, h2]
  · subst h; simp [blt_irrefl]
  · have h1 : blt x y = false := by
      cases hq : blt x y with
      | false => rfl
      | true => have := blt_trans h hq; rw [blt_irrefl] at this; cases this
    simp [h, h1]
theorem s_gt {bt : Bool} {x y : ByteArray} : binP bt .gtr (eS y) (eS x) = some (eB (blt x y)) := by rw [s_gtr, gt_eq]
def Srt : List ByteArray → Prop
  | [] => True
  | a :: r => (∀ b ∈ r, blt a b = true) ∧ Srt r
/-- Put into a sorted list, unless it is there. -/
def insS (s : ByteArray) : List ByteArray → List ByteArray
  | [] => [s]
  | a :: r => if a = s then a :: r else if blt s a then s :: a :: r else a :: insS s r
theorem insS_mem {s x : ByteArray} : ∀ {l : List ByteArray}, x ∈ insS s l → x = s ∨ x ∈ l
  | [], h => by simp [insS] at h; exact .inl h
  | a :: r, h => by
    rw [insS] at h
    split at h
    · exact .inr h
    · split at h
      · rcases List.mem_cons.1 h with h | h
        · exact .inl h
        · exact .inr h
      · rcases List.mem_cons.1 h with h | h
        · exact .inr (by simp [h])
        · rcases insS_mem h with h | h
          · exact .inl h
          · exact .inr (by simp [h])
theorem insS_srt {s : ByteArray} : ∀ {l : List ByteArray}, Srt l → Srt (insS s l)
  | [], _ => ⟨by simp, trivial⟩
  | a :: r, h => by
    rw [insS]
    split
    · exact h
    · rename_i hne
      split
      · rename_i hlt
        refine ⟨fun b hb => ?_, h⟩
        rcases List.mem_cons.1 hb with rfl | hb
        · exact hlt
        · exact blt_trans hlt (h.1 b hb)
      · rename_i hnl
        refine ⟨fun b hb => ?_, insS_srt h.2⟩
        rcases insS_mem hb with rfl | hb
        · rcases blt_tri a b with h1 | h1 | h1
          · exact h1
          · exact absurd h1 hne
          · rw [h1] at hnl; exact absurd rfl hnl
        · exact h.1 b hb
theorem insS_in {s : ByteArray} : ∀ {l : List ByteArray}, Srt l → s ∈ l → insS s l = l
  | [], _, h => by cases h
  | a :: r, hs, h => by
    rw [insS]
    rcases List.mem_cons.1 h with rfl | h
    · rw [if_pos rfl]
    · have hlt := hs.1 s h
      have hne : ¬ a = s := by rintro rfl; rw [blt_irrefl] at hlt; cases hlt
      have hnl : ¬ blt s a = true := fun h' => by have := blt_trans hlt h'; rw [blt_irrefl] at this; cases this
      rw [if_neg hne, if_neg hnl, insS_in hs.2 h]
/-- The place of a string that is not there: those ahead of it come before, the others behind. -/
theorem insS_out {s : ByteArray} : ∀ {l : List ByteArray}, Srt l → s ∉ l → ∃ a b, l = a ++ b ∧ insS s l = a ++ s :: b ∧ (∀ x ∈ a, blt x s = true) ∧ (∀ x ∈ b, blt s x = true)
  | [], _, _ => ⟨[], [], rfl, rfl, by simp, by simp⟩
  | a :: r, hs, h => by
    have hne : ¬ a = s := fun e => h (by simp [e])
    rw [insS, if_neg hne]
    by_cases hl : blt s a = true
    · rw [if_pos hl]
      exact ⟨[], a :: r, rfl, rfl, by simp, fun x hx => by
        rcases List.mem_cons.1 hx with rfl | hx
        · exact hl
        · exact blt_trans hl (hs.1 x hx)⟩
    · rw [if_neg hl]
      obtain ⟨p, q, h1, h2, h3, h4⟩ := insS_out (l := r) (s := s) hs.2 (fun hm => h (List.mem_cons_of_mem _ hm))
      refine ⟨a :: p, q, by rw [h1]; rfl, by rw [h2]; rfl, fun x hx => ?_, h4⟩
      rcases List.mem_cons.1 hx with rfl | hx
      · rcases blt_tri x s with h5 | h5 | h5
        · exact h5
        · exact absurd h5 hne
        · exact absurd h5 hl
      · exact h3 x hx
/-- The cut that a walk from the end finds. -/
theorem cutS (s : ByteArray) : ∀ {l : List ByteArray}, Srt l → ∃ a b, l = a ++ b ∧ (∀ x ∈ a, blt s x = false) ∧ (∀ x ∈ b, blt s x = true) ∧ (s ∈ l → ∃ a', a = a' ++ [s]) ∧ (s ∉ l → s ∉ a) ∧ (s ∉ l → insS s l = a ++ s :: b)
  | [], _ => ⟨[], [], rfl, by simp, by simp, by simp, by simp, fun _ => rfl⟩
  | c :: r, hs => by
    by_cases hm : s ∈ c :: r
    · by_cases hc : c = s
      · subst hc
        refine ⟨[c], r, rfl, by simp [blt_irrefl], hs.1, fun _ => ⟨[], rfl⟩, fun h => absurd hm h, fun h => absurd hm h⟩
      · have hr : s ∈ r := (List.mem_cons.1 hm).resolve_left fun h => hc h.symm
        obtain ⟨a, b, h1, h2, h3, h4, h5, h6⟩ := cutS s hs.2
        obtain ⟨a', ha'⟩ := h4 hr
        refine ⟨c :: a, b, by rw [h1]; rfl, ?_, h3, fun _ => ⟨c :: a', by rw [ha']; rfl⟩, fun h => absurd hm h, fun h => absurd hm h⟩
        · intro x hx
          rcases List.mem_cons.1 hx with rfl | hx
          · have hlt := hs.1 s hr
            cases hq : blt s x with
            | false => rfl
            | true => have := blt_trans hlt hq; rw [blt_irrefl] at this; cases this
          · exact h2 x hx
    · obtain ⟨a, b, h1, h2, h3, h4⟩ := insS_out hs hm
      refine ⟨a, b, h1, fun x hx => ?_, h4, fun h => absurd h hm, fun _ ha => hm (by rw [h1]; simp [ha]), fun _ => h2⟩
      have hlt := h3 x hx
      cases hq : blt s x with
      | false => rfl
      | true => have := blt_trans hlt hq; rw [blt_irrefl] at this; cases this
theorem insS_len {s : ByteArray} : ∀ (l : List ByteArray), (insS s l).length ≤ l.length + 1
  | [] => by simp [insS]
  | a :: r => by
    rw [insS]
    split
    · simp
    · split
      · simp
      · have := insS_len (s := s) r; simp; omega
end Go.Am
namespace Go.Am
set_option linter.unusedVariables false

def termTy : Nat → Ty
  | 0 => .stop
  | n + 1 => .struct [.int .i64, .int .i64, .str, .slice 4 56 (termTy n)]
theorem termTy_dp : ∀ (n m : Nat), m ≤ 2 * n → (termTy n).dp m = true
  | 0, m, h => by have : m = 0 := by omega
                  subst this; rfl
  | n + 1, 0, _ => rfl
  | n + 1, 1, _ => rfl
  | n + 1, m + 2, h => by
    have := termTy_dp n m (by omega)
    simp only [termTy, Ty.dp, dpL, this, Bool.and_true]
theorem termTy_ok {P : Program} {t s : TypeId} (h1 : ∀ y, tyOk P (.struct [.int .i64, .int .i64, .str, y]) t = (tyOk P y s && true)) (h2 : ∀ y, tyOk P (.slice 4 56 y) s = tyOk P y t) : ∀ n, tyOk P (termTy n) t = true
  | 0 => rfl
  | n + 1 => by rw [termTy, h1, h2, termTy_ok h1 h2 n]; rfl
theorem wt_Tm : ∀ (n : Nat) {x : List D}, Wt (termTy n) x → ∃ t : Tm, x = t.cells ∧ t.Ok
  | 0, x, h => h.elim
  | n + 1, x, h => by
    obtain ⟨a, b, rfl, ha, c, d, rfl, hc, e, f, rfl, he, g, i, rfl, hg, rfl⟩ := h
    obtain ⟨op, rfl, hop⟩ := wt_int ha
    obtain ⟨nn, rfl, hnn⟩ := wt_int hc
    obtain ⟨s, rfl, hs⟩ := wt_str he
    obtain ⟨es, rfl, _, hl, hes⟩ := hg
    obtain ⟨ks, rfl, hks⟩ := list_of Tm.cells Tm.Ok es fun x hx => wt_Tm n (hes x hx).2
    refine ⟨.mk op nn s false ks, ?_, .mk _ _ _ _ _ hop hnn (by omega) (by simpa using Nat.le_trans hl (by omega)) hks⟩
    simp [Tm.cells, Tm.rows_map, rowD]
theorem rw_cons {H : Type} {F : TyF} {Fs : List TyF} {xs : List (DataW H)} {ds : List D} (h : RWAll (F :: Fs) xs ds) : ∃ x xs' d ds' n, xs = x :: xs' ∧ ds = d :: ds' ∧ rdP (F n) x d ∧ WtP (F n) d ∧ RWAll Fs xs' ds' := by
  cases xs with
  | nil => cases ds <;> exact h.elim
  | cons x xs =>
    cases ds with
    | nil => exact h.elim
    | cons d ds =>
      obtain ⟨⟨n, h1, h2⟩, h3⟩ := h
      exact ⟨x, xs, d, ds, n, rfl, rfl, h1, h2, h3⟩
theorem rw_nil {H : Type} {xs : List (DataW H)} {ds : List D} (h : RWAll [] xs ds) : xs = [] ∧ ds = [] := by
  cases xs <;> cases ds <;> first | exact ⟨rfl, rfl⟩ | exact h.elim
theorem wt_B {d : D} (h : WtP .bool d) : ∃ b : Bool, d = eB b ∧ True := by
  obtain ⟨b, hb⟩ := wt_bool h
  exact ⟨b, by simpa using hb, trivial⟩
end Go.Am
namespace Go.Am
set_option linter.unusedVariables false
@[simp] theorem agg1 (a : D) : aggP 1 (.agg [a]) = a.one := by simp [aggP]
@[simp] theorem agg2 (a b : D) : aggP 2 (.agg [a, b]) = (a.one && b.one) := by simp [aggP]
@[simp] theorem agg5 (a b c d e : D) : aggP 5 (.agg [a, b, c, d, e]) = (a.one && (b.one && (c.one && (d.one && e.one)))) := by simp [aggP]
@[simp] theorem agg6 (a b c d e f : D) : aggP 6 (.agg [a, b, c, d, e, f]) = (a.one && (b.one && (c.one && (d.one && (e.one && f.one))))) := by simp [aggP]
@[simp] theorem agg7 (a b c d e f g : D) : aggP 7 (.agg [a, b, c, d, e, f, g]) = (a.one && (b.one && (c.one && (d.one && (e.one && (f.one && g.one)))))) := by simp [aggP]
@[simp] theorem agg8 (a b c d e f g h : D) : aggP 8 (.agg [a, b, c, d, e, f, g, h]) = (a.one && (b.one && (c.one && (d.one && (e.one && (f.one && (g.one && h.one))))))) := by simp [aggP]
@[simp] theorem cel_4 {a b c e f : D} {l : List D} : celD (.agg (a :: b :: c :: e :: f :: l)) 4 = f := rfl
@[simp] theorem cel_5 {a b c e f g : D} {l : List D} : celD (.agg (a :: b :: c :: e :: f :: g :: l)) 5 = g := rfl
@[simp] theorem cel_6 {a b c e f g h : D} {l : List D} : celD (.agg (a :: b :: c :: e :: f :: g :: h :: l)) 6 = h := rfl
@[simp] theorem cel_7 {a b c e f g h i : D} {l : List D} : celD (.agg (a :: b :: c :: e :: f :: g :: h :: i :: l)) 7 = i := rfl
/-- 'and', 'or' as the code has them. -/
theorem and_ch {β : Type} {x y : Bool} {f : D → Option β} : obind (gD (eB x) true (some (eB y))) (fun v => obind (pickP (eB x) v (eB false)) f) = f (eB (x && y)) := by cases x <;> rfl
theorem or_ch {β : Type} {x y : Bool} {f : D → Option β} : obind (gD (eB x) false (some (eB y))) (fun v => obind (pickP (eB x) (eB true) v) f) = f (eB (x || y)) := by cases x <;> rfl
inductive Fm where
  | mk (op : Int) (e : Tm) (nl : Bool) (kids : List Fm)
/-- The term with nothing in it. -/
def T0 : Tm := .mk 0 0 ⟨#[]⟩ true []
theorem T0_ok : T0.Ok := .mk _ _ _ _ _ (by omega) (by omega) (by decide) (by simp) (by simp)
namespace Fm
def op : Fm → Int | .mk o _ _ _ => o
def e : Fm → Tm | .mk _ t _ _ => t
def nl : Fm → Bool | .mk _ _ b _ => b
def kids : Fm → List Fm | .mk _ _ _ l => l
mutual
def cells : Fm → List D
  | .mk o t b ks => [eI o, eI t.op, eI t.num, eS t.name, rowD 4 t.nl (Tm.rows t.kids), rowD 6 b (rows ks)]
def rows : List Fm → List (List D)
  | [] => []
  | t :: r => cells t :: rows r
end
def d (t : Fm) : D := .agg t.cells
mutual
def sz : Fm → Nat
  | .mk _ t _ ks => 2 + t.sz + szL ks
def szL : List Fm → Nat
  | [] => 0
  | t :: r => 1 + sz t + szL r
end
theorem rows_map : ∀ l : List Fm, rows l = l.map cells
  | [] => rfl
  | t :: r => by simp [rows, rows_map r]
@[simp] theorem rows_len {l : List Fm} : (rows l).length = l.length := by simp [rows_map]
theorem rows_get {l : List Fm} {i : Nat} {t : Fm} (h : l[i]? = some t) : (rows l)[i]? = some t.cells := by simp [rows_map, h]
theorem ixP_kid {l : List Fm} {b : Bool} {i : Nat} {t : Fm} (h : l[i]? = some t) : ixP 6 (rowD 6 b (rows l)) (eI (i : Int)) = some t.cells := by rw [ixP_row, rows_get h]
theorem szL_len : ∀ l : List Fm, l.length ≤ szL l
  | [] => Nat.le_refl 0
  | t :: r => by simp only [szL, List.length_cons]; have := szL_len r; omega
theorem szL_mem : ∀ {l : List Fm} {t : Fm}, t ∈ l → sz t + 1 ≤ szL l
  | a :: r, t, h => by
    simp only [szL]
    rcases List.mem_cons.1 h with rfl | h
    · omega
    · have := szL_mem h; omega
theorem sz_eq (t : Fm) : t.sz = 2 + t.e.sz + szL t.kids := by cases t; rfl
theorem sz_kid {t k : Fm} (h : k ∈ t.kids) : k.sz + 3 ≤ t.sz := by
  have := szL_mem h; have := sz_eq t; omega
theorem sz_len {t : Fm} : t.kids.length + 2 ≤ t.sz := by
  have := szL_len t.kids; have := sz_eq t; omega
theorem sz_e {t : Fm} : t.e.sz + 2 ≤ t.sz := by have := sz_eq t; omega
theorem ind {P : Fm → Prop} (h : ∀ t : Fm, (∀ k ∈ t.kids, P k) → P t) (t : Fm) : P t := by
  have : ∀ (n : Nat) (t : Fm), t.sz ≤ n → P t := by
    intro n
    induction n with
    | zero => intro t ht; cases t; simp [sz] at ht
    | succ n ih => intro t ht; exact h t fun k hk => ih k (by have := sz_kid hk; omega)
  exact this _ t (Nat.le_refl _)
/-- No slice and no name is too long, every number fits. -/
inductive Ok : Fm → Prop where
  | mk (o : Int) (t : Tm) (b : Bool) (ks : List Fm) (ho : -9223372036854775808 ≤ o ∧ o ≤ 9223372036854775807) (ht : t.Ok) (hl : ks.length * 88 ≤ 140737488355328) (hk : ∀ k ∈ ks, Ok k) : Ok (.mk o t b ks)
theorem Ok.kid {t k : Fm} (h : Ok t) (hk : k ∈ t.kids) : Ok k := by cases h with | mk o n s b ks ho hn hs => exact hs k hk
theorem Ok.len {t : Fm} (h : Ok t) : t.kids.length * 88 ≤ 140737488355328 := by cases h; assumption
theorem Ok.e {t : Fm} (h : Ok t) : t.e.Ok := by cases h; assumption
theorem Ok.op {t : Fm} (h : Ok t) : -9223372036854775808 ≤ t.op ∧ t.op ≤ 9223372036854775807 := by cases h; assumption
theorem cells_eq (t : Fm) : t.cells = [eI t.op, eI t.e.op, eI t.e.num, eS t.e.name, rowD 4 t.e.nl (Tm.rows t.e.kids), rowD 6 t.nl (rows t.kids)] := by cases t; rfl
theorem d_eq (t : Fm) : t.d = .agg [eI t.op, eI t.e.op, eI t.e.num, eS t.e.name, rowD 4 t.e.nl (Tm.rows t.e.kids), rowD 6 t.nl (rows t.kids)] := by cases t; rfl
@[simp] theorem aggP_d (t : Fm) : aggP 6 t.d = true := by rw [d_eq]; simp
@[simp] theorem cel0 (t : Fm) : celD t.d 0 = eI t.op := by rw [d_eq]; rfl
@[simp] theorem cel1 (t : Fm) : celD t.d 1 = eI t.e.op := by rw [d_eq]; rfl
@[simp] theorem cel2 (t : Fm) : celD t.d 2 = eI t.e.num := by rw [d_eq]; rfl
@[simp] theorem cel3 (t : Fm) : celD t.d 3 = eS t.e.name := by rw [d_eq]; rfl
@[simp] theorem cel4 (t : Fm) : celD t.d 4 = rowD 4 t.e.nl (Tm.rows t.e.kids) := by rw [d_eq]; rfl
@[simp] theorem cel5 (t : Fm) : celD t.d 5 = rowD 6 t.nl (rows t.kids) := by rw [d_eq]; rfl
@[simp] theorem agg_d (t : Fm) : D.agg [eI t.op, eI t.e.op, eI t.e.num, eS t.e.name, rowD 4 t.e.nl (Tm.rows t.e.kids), rowD 6 t.nl (rows t.kids)] = t.d := (d_eq t).symm
@[simp high] theorem atP_cells (t : Fm) : atP true 6 0 t.cells = some t.d := by rw [d_eq, cells_eq]; rfl
end Fm
attribute [go_sem] obind_s og_t oif_b pd_0 pd_s and_ch or_ch b_lss b_leq b_gtr b_geq b_eql b_neq s_eql s_neq s_lss u_not jnX_l jnX_r inrX_s oneP_I oneP_B oneP_S oneP_sl oneP_row oneP_nil one_I one_B one_S one_sl one_row one_nil extP_tup List.getElem?_cons_zero List.getElem?_cons_succ esD_sl lenP_sl lenP_row lenP_nil elP_sl ixP_nat Bool.and_true Bool.true_and Bool.and_self if_true if_false Bool.not_true Bool.not_false Bool.false_eq_true flat_eB flat_eI flat_eS Bool.or_true Bool.true_or agg2 agg3 agg4 agg5 agg6 agg7 agg8 zB zI zS celsD_agg mpD_mp Tm.aggP_d Tm.cel0 Tm.cel1 Tm.cel2 Tm.cel3 Tm.agg_d Tm.atP_cells Tm.rows_len Fm.aggP_d Fm.cel0 Fm.cel1 Fm.cel2 Fm.cel3 Fm.cel4 Fm.cel5 Fm.agg_d Fm.atP_cells Fm.rows_len
end Go.Am
namespace Go.Am
set_option linter.unusedVariables false
def formTy : Nat → Ty
  | 0 => .stop
  | n + 1 => .struct [.int .i64, termTy (n + 1), .slice 6 88 (formTy n)]
theorem formTy_dp : ∀ (n m : Nat), m ≤ 2 * n → (formTy n).dp m = true
  | 0, m, h => by have : m = 0 := by omega
                  subst this; rfl
  | n + 1, 0, _ => rfl
  | n + 1, 1, _ => by simp [formTy, Ty.dp, dpL]
  | n + 1, m + 2, h => by
    have := formTy_dp n m (by omega)
    have h2 := termTy_dp (n + 1) (m + 1) (by omega)
    simp only [formTy, Ty.dp, dpL, this, h2, Bool.and_true]
theorem formTy_ok {P : Program} {t s r q : TypeId} (h1 : ∀ y z, tyOk P (.struct [.int .i64, y, z]) t = (tyOk P y r && (tyOk P z s && true))) (h2 : ∀ y, tyOk P (.slice 6 88 y) s = tyOk P y t) (h3 : ∀ n, tyOk P (termTy n) r = true) : ∀ n, tyOk P (formTy n) t = true
  | 0 => rfl
  | n + 1 => by rw [formTy, h1, h2, formTy_ok (q := q) h1 h2 h3 n, h3]; rfl
/-- t: the struct, s: the slice of it; r, q: the same of terms. -/
theorem formF_ok {P : Program} {t s r q : TypeId} (h1 : ∀ y z, tyOk P (.struct [.int .i64, y, z]) t = (tyOk P y r && (tyOk P z s && true))) (h2 : ∀ y, tyOk P (.slice 6 88 y) s = tyOk P y t)
    (h3 : ∀ y, tyOk P (.struct [.int .i64, .int .i64, .str, y]) r = (tyOk P y q && true)) (h4 : ∀ y, tyOk P (.slice 4 56 y) q = tyOk P y r) (hl : decide (t < P.types.size) = true) : FOkT P formTy t :=
  ⟨fun n => formTy_dp n n (by omega), formTy_ok (q := q) h1 h2 (termTy_ok h3 h4), of_decide_eq_true hl, fun n => by cases n <;> rfl⟩
theorem wt_Fm : ∀ (n : Nat) {x : List D}, Wt (formTy n) x → ∃ t : Fm, x = t.cells ∧ t.Ok
  | 0, x, h => h.elim
  | n + 1, x, h => by
    obtain ⟨a, b, rfl, ha, c, d, rfl, hc, g, i, rfl, hg, rfl⟩ := h
    obtain ⟨op, rfl, hop⟩ := wt_int ha
    obtain ⟨t, rfl, ht⟩ := wt_Tm (n + 1) hc
    obtain ⟨es, rfl, _, hl, hes⟩ := hg
    obtain ⟨ks, rfl, hks⟩ := list_of Fm.cells Fm.Ok es fun x hx => wt_Fm n (hes x hx).2
    refine ⟨.mk op t false ks, ?_, .mk _ _ _ _ hop ht (by simpa using Nat.le_trans hl (by omega)) hks⟩
    simp [Fm.cells, Fm.rows_map, rowD, Tm.cells_eq]
theorem wt_FmP {n : Nat} {d : D} (h : WtP (formTy n) d) : ∃ t : Fm, d = t.d ∧ t.Ok := by
  cases n with
  | zero => exact (h : False).elim
  | succ n =>
    obtain ⟨ds, rfl, h⟩ := h
    obtain ⟨t, rfl, ht⟩ := wt_Fm (n + 1) h
    exact ⟨t, rfl, ht⟩
end Go.Am
namespace Go.Am
set_option linter.unusedVariables false
structure Df where
  name : ByteArray
  e : Tm
def Df.cells (d : Df) : List D := [eS d.name, eI d.e.op, eI d.e.num, eS d.e.name, rowD 4 d.e.nl (Tm.rows d.e.kids)]
def Df.d (d : Df) : D := .agg d.cells
def Df.Ok (d : Df) : Prop := d.name.size ≤ 140737488351232 ∧ d.e.Ok
section
variable {l : List Df} {i : Nat} {d : Df}
@[simp] theorem Df.at5 (d : Df) : atP true 5 0 d.cells = some d.d := rfl
@[simp] theorem Df.at1 (d : Df) : atP true 4 1 d.cells = some d.e.d := by rw [Tm.d_eq]; rfl
@[simp] theorem Df.at0 (d : Df) : atP false 1 0 d.cells = some (eS d.name) := rfl
@[simp] theorem Df.agg (d : Df) : aggP 5 d.d = true := by unfold Df.d Df.cells; simp
@[simp] theorem Df.c0 (d : Df) : celD d.d 0 = eS d.name := rfl
@[simp] theorem Df.c1 (d : Df) : celD d.d 1 = eI d.e.op := rfl
@[simp] theorem Df.c2 (d : Df) : celD d.d 2 = eI d.e.num := rfl
@[simp] theorem Df.c3 (d : Df) : celD d.d 3 = eS d.e.name := rfl
@[simp] theorem Df.c4 (d : Df) : celD d.d 4 = rowD 4 d.e.nl (Tm.rows d.e.kids) := rfl
end
/-- A map that says 'true' of the places of S. -/
def KM (M : List (Value × D)) (S : List Nat) : Prop := IM M ∧ ∀ i : Nat, getI M (i : Int) = if i ∈ S then some (eB true) else none
theorem KM.nil : KM [] [] := ⟨by (intro e he; cases he), fun i => rfl⟩
theorem KM.put {M : List (Value × D)} {S : List Nat} (h : KM M S) (i : Nat) : ∃ M', putP (.int .i64) M (eI (i : Int)) (eB true) = some M' ∧ KM M' (if i ∈ S then S else S ++ [i]) := by
  obtain ⟨M', h1, h2, h3, _⟩ := putI h.1 (i : Int) (eB true)
  refine ⟨M', h1, h2, fun j => ?_⟩
  rw [h3, h.2]
  by_cases hj : j = i
  · subst hj; by_cases hi : j ∈ S <;> simp [hi]
  · have : ¬ ((j : Int) = (i : Int)) := by omega
    by_cases hi : i ∈ S <;> simp [this, hi, hj]
theorem KM.mem {M : List (Value × D)} {S T : List Nat} (h : KM M S) (hst : ∀ x, x ∈ S ↔ x ∈ T) : KM M T := ⟨h.1, fun i => by rw [h.2]; simp only [hst i]⟩
end Go.Am
namespace Go.Am
set_option linter.unusedVariables false
end Go.Am
