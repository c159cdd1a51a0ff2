/- A term, a definition is no greater than the bulk of what is read. No condition. -/
import Derived.Test.YtnhjgipcepnocaaFrame35
import Derived.Test.YtnhjgipcepnocaaEngD
set_option linter.all false
set_option linter.unnecessarySimpa false
namespace Go.Am
open Go.Proofs Go.Proofs.Ytnhjgipcepnocaa
open Go.ChangeShapes Go.WideShapes Go.ChangeAt Go.RowKit
set_option linter.unusedVariables false
theorem bulk_app {H : Type} : ∀ (xs ys : List (DataW H)), Rows.uptoBulkAll xs ≤ Rows.uptoBulkAll (xs ++ ys)
  | [], ys => by simp [Rows.uptoBulkAll]
  | x :: xs, ys => by simp only [List.cons_append, Rows.uptoBulkAll]; have := bulk_app xs ys; omega
theorem bulk_pos {H : Type} (x : DataW H) : 1 ≤ Rows.uptoBulk x := by
  cases x with
  | lit l => cases l <;> simp [Rows.uptoBulk]
  | _ => simp [Rows.uptoBulk]
theorem rd_int_len {H : Type} {k : IntKind} {x : DataW H} {a : List D} (h : rd (.int k) x = some a) : a.length = 1 := by
  cases x with
  | lit l =>
    cases l with
    | int k n => simp [rd] at h; rw [← h]; rfl
    | _ => simp [rd] at h
  | _ => simp [rd] at h
theorem rd_str_len {H : Type} {x : DataW H} {a : List D} (h : rd .str x = some a) : a.length = 1 := by
  cases x with
  | lit l =>
    cases l with
    | string n => simp [rd] at h; rw [← h]; rfl
    | _ => simp [rd] at h
  | _ => simp [rd] at h
theorem sz_bulk {H : Type} : ∀ (n : Nat) (x : DataW H) (t : Tm), rd (termTy n) x = some t.cells → t.sz + 1 ≤ Rows.uptoBulk x
  | 0, x, t, h => by simp [termTy, rd] at h
  | n + 1, x, t, h => by
    cases x with
    | agg parts =>
      simp only [termTy, rd] at h
      match parts, h with
      | [p0, p1, p2, p3], h =>
        simp only [rdL, Option.map_some, List.append_nil] at h
        obtain ⟨a, ha, h⟩ := Option.bind_eq_some_iff.1 h
        obtain ⟨r1, hr1, h⟩ := Option.map_eq_some_iff.1 h
        obtain ⟨b, hb, hr1⟩ := Option.bind_eq_some_iff.1 hr1
        obtain ⟨r2, hr2, hr1⟩ := Option.map_eq_some_iff.1 hr1
        obtain ⟨c, hc, hr2⟩ := Option.bind_eq_some_iff.1 hr2
        obtain ⟨r3, hr3, hr2⟩ := Option.map_eq_some_iff.1 hr2
        obtain ⟨d, hd, hr3⟩ := Option.bind_eq_some_iff.1 hr3
        cases hr3
        subst hr2 hr1
        have la := rd_int_len ha
        have lb := rd_int_len hb
        have lc := rd_str_len hc
        match a, b, c, la, lb, lc with
        | [a], [b], [c], _, _, _ =>
        rw [Tm.cells_eq] at h
        simp only [List.cons_append, List.nil_append, List.cons.injEq] at h
        obtain ⟨_, _, _, h⟩ := h
        have q0 := bulk_pos p0
        have q1 := bulk_pos p1
        have q2 := bulk_pos p2
        have key : Tm.szL t.kids + 1 ≤ Rows.uptoBulk p3 := by
          cases p3 with
          | nil =>
            simp only [rd, Option.some.injEq] at hd
            subst hd
            simp only [List.cons.injEq, and_true] at h
            have : t.kids = [] := by
              cases hk : t.kids with
              | nil => rfl
              | cons k r => rw [hk, Tm.rows, rowD_cons] at h; simp at h
            rw [this]; simp [Tm.szL, Rows.uptoBulk]
          | slice es sp =>
            simp only [rd] at hd
            obtain ⟨xs, hxs, hd⟩ := Option.map_eq_some_iff.1 hd
            subst hd
            simp only [List.cons.injEq, and_true] at h
            have hrow : xs = Tm.rows t.kids := by
              cases hk : t.kids with
              | nil =>
                rw [hk] at h
                simp only [Tm.rows] at h
                unfold rowD at h
                split at h
                · cases h
                · simp at h; rw [h]; rfl
              | cons k r => rw [hk, Tm.rows, rowD_cons] at h; simp at h; rw [h]; rfl
            subst hrow
            have go : ∀ (es : List (DataW H)) (ks : List Tm), es.mapM (rd (termTy n)) = some (Tm.rows ks) → Tm.szL ks ≤ Rows.uptoBulkAll es := by
              intro es
              induction es with
              | nil =>
                intro ks hm
                cases ks with
                | nil => simp [Tm.szL]
                | cons k r => simp [Tm.rows] at hm
              | cons e es ih =>
                intro ks hm
                rw [List.mapM_cons] at hm
                cases hx : rd (termTy n) e with
                | none => simp [hx] at hm
                | some y =>
                  cases hy : es.mapM (rd (termTy n)) with
                  | none => simp [hx, hy] at hm
                  | some ys =>
                    simp [hx, hy] at hm
                    cases ks with
                    | nil => simp [Tm.rows] at hm
                    | cons k r =>
                      simp only [Tm.rows, List.cons.injEq] at hm
                      obtain ⟨rfl, rfl⟩ := hm
                      have h1 := sz_bulk n e k hx
                      have h2 := ih r hy
                      simp only [Tm.szL, Rows.uptoBulkAll]
                      omega
            have := go es t.kids hxs
            simp only [Rows.uptoBulk]
            omega
          | _ => simp [rd] at hd
        have hz : t.sz = Tm.szL t.kids + 2 := by cases t; simp [Tm.sz, Tm.kids]; omega
        simp only [Rows.uptoBulk, Rows.uptoBulkAll]
        omega
      | [], h => simp [rdL] at h
      | [_], h => simp [rdL] at h
      | [_, _], h => simp [rdL] at h
      | [_, _, _], h => simp [rdL] at h
      | _ :: _ :: _ :: _ :: _ :: _, h => simp [rdL] at h
    | _ => simp [termTy, rd] at h
theorem bulk_T {H : Type} {n : Nat} {y : DataW H} {t : Tm} (h : rdP (termTy n) y t.d) (q : WtP (termTy n) t.d) : t.sz + 1 ≤ Rows.uptoBulk y := by
  cases n with
  | zero => exact (q : False).elim
  | succ m =>
    obtain ⟨cs, hcs, hrd⟩ := h
    cases hcs
    exact sz_bulk (m + 1) y t hrd
theorem df_bulk {H : Type} {n : Nat} {x : DataW H} {d : Df} (h : rd (.struct [.str, termTy n]) x = some d.cells) : d.e.sz + 1 ≤ Rows.uptoBulk x := by
  cases x with
  | agg parts =>
    simp only [rd] at h
    match parts, h with
    | [p0, p1], h =>
      simp only [rdL, Option.map_some, List.append_nil] at h
      obtain ⟨a, ha, h⟩ := Option.bind_eq_some_iff.1 h
      obtain ⟨r1, hr1, h⟩ := Option.map_eq_some_iff.1 h
      obtain ⟨b, hb, hr1⟩ := Option.bind_eq_some_iff.1 hr1
      cases hr1
      have la := rd_str_len ha
      match a, la with
      | [a], _ =>
      simp only [Df.cells, List.cons_append, List.nil_append, List.cons.injEq] at h
      have hb' : rd (termTy n) p1 = some d.e.cells := by rw [hb, Tm.cells_eq, h.2]
      have := sz_bulk n p1 d.e hb'
      simp only [Rows.uptoBulk, Rows.uptoBulkAll]
      omega
    | [], h => simp [rdL] at h
    | [_], h => simp [rdL] at h
    | _ :: _ :: _ :: _, h => simp [rdL] at h
  | _ => simp [rd] at h
theorem bulk_Ds {H : Type} {n : Nat} {y : DataW H} {l : List Df} (h : rdP (dfTy n) y (eDs l)) : l.length ≤ Rows.uptoBulk y ∧ ∀ d ∈ l, d.e.sz ≤ Rows.uptoBulk y := by
  have h' : rd (dfTy n) y = some [eDs l] := h
  cases y with
  | nil =>
    simp only [dfTy, rd, eDs, Option.some.injEq, List.cons.injEq, and_true, D.sl.injEq, true_and] at h'
    have : l = [] := by simpa using h'.symm
    subst this; simp
  | slice es sp =>
    simp only [dfTy, rd] at h'
    obtain ⟨xs, hxs, hd⟩ := Option.map_eq_some_iff.1 h'
    simp only [eDs, List.cons.injEq, and_true, D.sl.injEq, true_and] at hd
    subst hd
    have go : ∀ (es : List (DataW H)) (l : List Df), es.mapM (rd (.struct [.str, termTy n])) = some (l.map Df.cells) → l.length ≤ Rows.uptoBulkAll es ∧ ∀ d ∈ l, d.e.sz ≤ Rows.uptoBulkAll es := by
      intro es
      induction es with
      | nil =>
        intro l hm
        cases l with
        | nil => simp
        | cons k r => simp at hm
      | cons e es ih =>
        intro l hm
        rw [List.mapM_cons] at hm
        cases hx : rd (.struct [.str, termTy n]) e with
        | none => simp [hx] at hm
        | some y =>
          cases hy : es.mapM (rd (.struct [.str, termTy n])) with
          | none => simp [hx, hy] at hm
          | some ys =>
            simp [hx, hy] at hm
            cases l with
            | nil => simp at hm
            | cons k r =>
              simp only [List.map_cons, List.cons.injEq] at hm
              obtain ⟨rfl, rfl⟩ := hm
              have h1 := df_bulk hx
              have h2 := ih r hy
              have h3 := bulk_pos e
              simp only [Rows.uptoBulkAll, List.length_cons]
              refine ⟨by omega, ?_⟩
              intro d hd
              rcases List.mem_cons.1 hd with rfl | hd
              · omega
              · have := h2.2 d hd; omega
    have := go es l hxs
    simp only [Rows.uptoBulk]
    refine ⟨by omega, fun d hd => ?_⟩
    have := this.2 d hd; omega
  | _ => simp [dfTy, rd] at h'
end Go.Am
