/- A term is no greater than the bulk of what is read. No condition. -/
import Derived.Test.YtpjkdcopnnnjbaaFrame30
import Derived.Test.YtpjkdcopnnnjbaaEngD
set_option linter.all false
set_option linter.unnecessarySimpa false
namespace Go.Am
open Go.Proofs Go.Proofs.Ytpjkdcopnnnjbaa
open Go.ChangeShapes Go.WideShapes Go.ChangeAt Go.RowKit
set_option linter.unusedVariables false
theorem bulk_app {H : Type} : ∀ (xs ys : List (DataW H)), Rows.uptoBulkAll xs ≤ Rows.uptoBulkAll (xs ++ ys)
  | [], ys => by simp [Rows.uptoBulkAll]
  | x :: xs, ys => by simp only [List.cons_append, Rows.uptoBulkAll]; have := bulk_app xs ys; omega
theorem bulk_pos {H : Type} (x : DataW H) : 1 ≤ Rows.uptoBulk x := by
  cases x with
  | lit l => cases l <;> simp [Rows.uptoBulk]
  | _ => simp [Rows.uptoBulk]
theorem rd_int_len {H : Type} {k : IntKind} {x : DataW H} {a : List D} (h : rd (.int k) x = some a) : a.length = 1 := by
  cases x with
  | lit l =>
    cases l with
    | int k n => simp [rd] at h; rw [← h]; rfl
    | _ => simp [rd] at h
  | _ => simp [rd] at h
theorem rd_str_len {H : Type} {x : DataW H} {a : List D} (h : rd .str x = some a) : a.length = 1 := by
  cases x with
  | lit l =>
    cases l with
    | string n => simp [rd] at h; rw [← h]; rfl
    | _ => simp [rd] at h
  | _ => simp [rd] at h
theorem sz_bulk {H : Type} : ∀ (n : Nat) (x : DataW H) (t : Tm), rd (termTy n) x = some t.cells → t.sz + 1 ≤ Rows.uptoBulk x
  | 0, x, t, h => by simp [termTy, rd] at h
  | n + 1, x, t, h => by
    cases x with
    | agg parts =>
      simp only [termTy, rd] at h
      match parts, h with
      | [p0, p1, p2, p3], h =>
        simp only [rdL, Option.map_some, List.append_nil] at h
        obtain ⟨a, ha, h⟩ := Option.bind_eq_some_iff.1 h
        obtain ⟨r1, hr1, h⟩ := Option.map_eq_some_iff.1 h
        obtain ⟨b, hb, hr1⟩ := Option.bind_eq_some_iff.1 hr1
        obtain ⟨r2, hr2, hr1⟩ := Option.map_eq_some_iff.1 hr1
        obtain ⟨c, hc, hr2⟩ := Option.bind_eq_some_iff.1 hr2
        obtain ⟨r3, hr3, hr2⟩ := Option.map_eq_some_iff.1 hr2
        obtain ⟨d, hd, hr3⟩ := Option.bind_eq_some_iff.1 hr3
        cases hr3
        subst hr2 hr1
        have la := rd_int_len ha
        have lb := rd_int_len hb
        have lc := rd_str_len hc
        match a, b, c, la, lb, lc with
        | [a], [b], [c], _, _, _ =>
        rw [Tm.cells_eq] at h
        simp only [List.cons_append, List.nil_append, List.cons.injEq] at h
        obtain ⟨_, _, _, h⟩ := h
        have q0 := bulk_pos p0
        have q1 := bulk_pos p1
        have q2 := bulk_pos p2
        have key : Tm.szL t.kids + 1 ≤ Rows.uptoBulk p3 := by
          cases p3 with
          | nil =>
            simp only [rd, Option.some.injEq] at hd
            subst hd
            simp only [List.cons.injEq, and_true] at h
            have : t.kids = [] := by
              cases hk : t.kids with
              | nil => rfl
              | cons k r => rw [hk, Tm.rows, rowD_cons] at h; simp at h
            rw [this]; simp [Tm.szL, Rows.uptoBulk]
          | slice es sp =>
            simp only [rd] at hd
            obtain ⟨xs, hxs, hd⟩ := Option.map_eq_some_iff.1 hd
            subst hd
            simp only [List.cons.injEq, and_true] at h
            have hrow : xs = Tm.rows t.kids := by
              cases hk : t.kids with
              | nil =>
                rw [hk] at h
                simp only [Tm.rows] at h
                unfold rowD at h
                split at h
                · cases h
                · simp at h; rw [h]; rfl
              | cons k r => rw [hk, Tm.rows, rowD_cons] at h; simp at h; rw [h]; rfl
            subst hrow
            have go : ∀ (es : List (DataW H)) (ks : List Tm), es.mapM (rd (termTy n)) = some (Tm.rows ks) → Tm.szL ks ≤ Rows.uptoBulkAll es := by
              intro es
              induction es with
              | nil =>
                intro ks hm
                cases ks with
                | nil => simp [Tm.szL]
                | cons k r => simp [Tm.rows] at hm
              | cons e es ih =>
                intro ks hm
                rw [List.mapM_cons] at hm
                cases hx : rd (termTy n) e with
                | none => simp [hx] at hm
                | some y =>
                  cases hy : es.mapM (rd (termTy n)) with
                  | none => simp [hx, hy] at hm
                  | some ys =>
                    simp [hx, hy] at hm
                    cases ks with
                    | nil => simp [Tm.rows] at hm
                    | cons k r =>
                      simp only [Tm.rows, List.cons.injEq] at hm
                      obtain ⟨rfl, rfl⟩ := hm
                      have h1 := sz_bulk n e k hx
                      have h2 := ih r hy
                      simp only [Tm.szL, Rows.uptoBulkAll]
                      omega
            have := go es t.kids hxs
            simp only [Rows.uptoBulk]
            omega
          | _ => simp [rd] at hd
        have hz : t.sz = Tm.szL t.kids + 2 := by cases t; simp [Tm.sz, Tm.kids]; omega
        simp only [Rows.uptoBulk, Rows.uptoBulkAll]
        omega
      | [], h => simp [rdL] at h
      | [_], h => simp [rdL] at h
      | [_, _], h => simp [rdL] at h
      | [_, _, _], h => simp [rdL] at h
      | _ :: _ :: _ :: _ :: _ :: _, h => simp [rdL] at h
    | _ => simp [termTy, rd] at h
end Go.Am
